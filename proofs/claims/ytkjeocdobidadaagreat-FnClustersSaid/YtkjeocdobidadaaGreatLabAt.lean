/- LabelAt, of the program and of the reference. No condition. -/
import Derived.Test.YtkjeocdobidadaaGreatAt
import Derived.Test.YtkjeocdobidadaaGreatDeed
import Derived.Test.YtkjeocdobidadaaGreatKit
import Derived.Test.YtkjeocdobidadaaGreatWords
import Derived.Test.YtkjeocdobidadaaGreatOrdP
import Derived.Test.YtkjeocdobidadaaGreatKeys
import Derived.Test.YtkjeocdobidadaaGreatLabelsOk
namespace Go.Proofs.YtkjeocdobidadaaGreat
open Go.ChangeShapes Go.WideShapes Go.ChangeAt Go.RowKit
set_option linter.unusedVariables false
set_option linter.unusedSimpArgs false
set_option maxHeartbeats 2000000
set_option maxRecDepth 100000
def JO (key:ByteArray) (l:Label):Bool:=l.key.toList == key.toList
def Df (key:ByteArray) (xs:List Label):ByteArray × Bool:=match xs.find? (JO key) with | some l=>(l.value,true) | none=>(⟨#[]⟩,false)
theorem adM {key:ByteArray} {xs:List Label} {k:Nat} (hk:k < xs.length) (hn:∀l∈xs.take k,JO key l = false) (hp:JO key xs[k] = true):Df key xs = (xs[k].value,true):=by
 have e:xs.find? (JO key) = some xs[k]:=by rw [List.find?_eq_some_iff_append];exact ⟨hp,xs.take k,xs.drop (k+1),by rw [List.getElem_cons_drop,List.take_append_drop],fun a ha=>by simp [hn a ha]⟩
 unfold Df;rw [e]
theorem agB {key:ByteArray} {xs:List Label} (hn:∀l∈xs,JO key l = false):Df key xs = (⟨#[]⟩,false):=by
 have e:xs.find? (JO key) = none:=by rw [List.find?_eq_none];intro l hl;simp [hn l hl]
 unfold Df;rw [e]
theorem akK (xs:List Label) (key:ByteArray) (A:Option Addr) (n c:Nat) (F:List Nat) (w:World) (h:Sl w xs A c F) (hn:n = xs.length) (hl:(xs.length:Int)≤1048576) :
 Calls Tryz.prog 215 #[.slice A n c,.string key] w fun e w'=>e = .returned (.tuple #[.string (Df key xs).1,.bool (Df key xs).2])∧Below w.heap.size w w':=by
 subst hn;go_enter Tryz.func215,Tryz.ntmps215;go_wp2_with fail
 go_loopw [6] (fun i wr=>∃k:Nat,k≤xs.length∧i = .int .i64 k∧Hid (∀l∈xs.take k,JO key l = false)∧Below w.heap.size w wr) (fun i _=>xs.length - (intOf i).toNat)
 case atStart=>exact ⟨0,Nat.zero_le _,rfl,by show ∀_,_;simp,atS⟩
 case round =>
  obtain ⟨k,hk,rfl,HN,hbl⟩:=hrel;by_cases hlt:k < xs.length
  ·obtain ⟨b,o,ck,Fk,rfl,o9,hbs,hr,hsub,hc⟩:=(Sl.ext (w':=wr) (A:=A) (c:=c) h hbl).get hlt;obtain ⟨hck,su,hkey,kP⟩:=vO hr;subst hck;have q0:wr.cell? ⟨b,o+k * 2,none⟩ = some (.string xs[k].key):=(by exact hc 0 _ rfl);have q1:wr.cell? ⟨b,o+k * 2+1,none⟩ = some (.string xs[k].value):=(by rw [Nat.add_assoc];exact hc 1 _ rfl);clear hc;cases hp:JO key xs[k] with
   | true =>
     have HF:=I' (adM hlt HN.out hp);unfold JO at hp;go_wp2;go_returns
     exact ⟨by rw [HF.out];rfl,atS⟩
   | false =>have Gn:=I' (yQ hlt HN.out hp);unfold JO at hp;exact Zaea
  ·have hkl:k = xs.length:=O';subst hkl;have hn:=HN.out;rw [List.take_length] at hn;have HF:=I' (agB hn);clear hn;go_wp2;go_returns
   exact ⟨by rw [HF.out];rfl,atS⟩
theorem BH {xs:List iU} (h:(kL iU.wt xs:Int)≤1048576):((xs.length:Int)≤1048576)∧∀l∈xs,(l.key.size:Int)≤1048576∧(l.value.size:Int)≤1048576:=by
 refine ⟨by have:=gJ iU.wt xs;omega,fun l hl=>?_⟩;have h1:=Bq (f:=iU.wt) hl;have e:iU.wt l = l.key.size+l.value.size:=rfl;omega
theorem FQ {xs:List bH} (h:(kL bH.wt xs:Int)≤1048576):((xs.length:Int)≤1048576)∧∀l∈xs,(l.key.size:Int)≤1048576∧(l.value.size:Int)≤1048576:=by
 refine ⟨by have:=gJ bH.wt xs;omega,fun l hl=>?_⟩;have h1:=Bq (f:=bH.wt) hl;have e:bH.wt l = l.key.size+l.value.size:=rfl;omega
theorem yg {α:Type} (p:α→Bool) (xs:List α):pK p xs = -1∨∃k:Nat,k < xs.length∧pK p xs = k:=by
 have:=Nc (p:=p) xs;by_cases h:pK p xs < 0
 ·left;omega
 ·right;exact ⟨(pK p xs).toNat,O',O'⟩
theorem Aa {xs:List Need} (h:(kL Need.wt xs:Int)≤1048576):((xs.length:Int)≤1048576)∧(∀l∈xs,(l.key.size:Int)≤1048576∧(l.values.length:Int)≤1048576∧∀v∈l.values,(v.size:Int)≤1048576):=by
 refine ⟨by have:=gJ Need.wt xs;omega,fun l hl=>?_⟩;have h1:=Bq (f:=Need.wt) hl;have e:Need.wt l = l.key.size+wtS l.values:=rfl;have h2:=gJ ByteArray.size l.values;unfold wtS at e;refine ⟨O',O',fun v hv=>?_⟩;have h3:=Bq (f:=ByteArray.size) hv;omega
theorem sW {xs:List Label} (h:(kL Label.wt xs:Int)≤1048576):((xs.length:Int)≤1048576)∧∀l∈xs,(l.key.size:Int)≤1048576∧(l.value.size:Int)≤1048576:=by
 refine ⟨by have:=gJ Label.wt xs;omega,fun l hl=>?_⟩;have h1:=Bq (f:=Label.wt) hl;have e:Label.wt l = l.key.size+l.value.size:=rfl;omega
theorem aZ {α:Type} [Dat α] {w w':World} {x:α} {cs:List Value} {F:List Nat} (h:rd w x cs F) (hb:Below w.heap.size w w'):rd w' x cs F :=
 Dat.frame h (fun b hb'=>hb.block b (Dat.lt h b hb')) hb.size
def MF (s:ByteArray) (xs:List ByteArray):Bool:=xs.any fun v=>v.toList == s.toList
theorem ar4 {s:ByteArray} {xs:List ByteArray} {k:Nat} (hk:k < xs.length) (hp:(xs[k].toList == s.toList) = true):MF s xs = true:=by
 unfold MF;rw [List.any_eq_true];exact ⟨xs[k],List.getElem_mem ..,hp⟩
theorem atn {s:ByteArray} {xs:List ByteArray} (hn:∀v∈xs,(v.toList == s.toList) = false):MF s xs = false:=by
 unfold MF;rw [List.any_eq_false];intro v hv;simp [hn v hv]
theorem aaG (xs:List ByteArray) (s:ByteArray) (A:Option Addr) (n c:Nat) (F:List Nat) (w:World) (h:Sl w xs A c F) (hn:n = xs.length) (hl:(xs.length:Int)≤1048576) :
 Calls Tryz.prog 216 #[.slice A n c,.string s] w fun e w'=>e = .returned (.bool (MF s xs))∧Below w.heap.size w w':=by
 subst hn;go_enter Tryz.func216,Tryz.ntmps216;go_wp2_with fail
 go_loopw [5] (fun i wr=>∃k:Nat,k≤xs.length∧i = .int .i64 k∧Hid (∀v∈xs.take k,(v.toList == s.toList) = false)∧Below w.heap.size w wr) (fun i _=>xs.length - (intOf i).toNat)
 case atStart=>exact ⟨0,Nat.zero_le _,rfl,by show ∀_,_;simp,atS⟩
 case round =>
  obtain ⟨k,hk,rfl,HN,hbl⟩:=hrel;by_cases hlt:k < xs.length
  ·obtain ⟨b,o,ck,Fk,rfl,o9,hbs,hr,hsub,hc⟩:=(Sl.ext (w':=wr) (A:=A) (c:=c) h hbl).get hlt;obtain ⟨hck,su,hsz⟩:=hr;subst hck su;have q0:wr.cell? ⟨b,o+k,none⟩ = some (.string xs[k]):=(by have:=hc 0 _ rfl;rwa [show o+(k * Dat.size ByteArray+0) = o+k from by show o+(k * 1+0) = _;omega] at this);clear hc;cases hp:(xs[k].toList == s.toList) with
   | true =>have hp2:(s.toList == xs[k].toList) = true:=(by rw [BEq.comm];exact hp);have HF:=I' (ar4 hlt hp);exact Zaa0
   | false =>have hp2:(s.toList == xs[k].toList) = false:=(by rw [BEq.comm];exact hp);have Gn:=I' (yQ (p:=fun v:ByteArray=>v.toList == s.toList) hlt HN.out hp);exact Zaea
  ·have hkl:k = xs.length:=O';subst hkl;have hn:=HN.out;rw [List.take_length] at hn;have HF:=I' (atn hn);clear hn;exact Zaa0
theorem ahN (x:bH) (y:iU) (cs ds:List Value) (F G:List Nat) (w:World) (h:rd w x cs F) (h':rd w y ds G) (hks:(x.key.size:Int)≤1048576) (hvs:(x.value.size:Int)≤1048576) (aiD:(y.key.size:Int)≤1048576) (hvs':(y.value.size:Int)≤1048576) :
 Calls Tryz.prog 206 #[.agg cs.toArray,.agg ds.toArray] w fun e w'=>e = .returned (.bool (AY x y))∧Below w.heap.size w w':=by
 obtain ⟨hck,hF1,xO,xk,zT⟩:=jv h;obtain ⟨jU,hF2,vC,rP,uY⟩:=oK h';subst hck jU;subst hF1 hF2;go_enter Tryz.func206,Tryz.ntmps206
 go_wp2_with (first
  | (go_at_call 178;refine (Nb x _ [] _ (aJ h atS) hks hvs).mono ?_;rintro e w2 ⟨rfl,hb2⟩;obtain ⟨hc2,hf2⟩:=ay hb2;have hz2:w.heap.size+1 < w2.heap.size:=(sq hb2.size);have hy2:w.heap.size < w2.heap.size:=O')
  | (go_at_call 186;refine (Wh y _ [] _ (aJ h' atS) aiD hvs').mono ?_;rintro e w3 ⟨rfl,hb3⟩;obtain ⟨hc3,hf3⟩:=ay hb3;have hz3:w.heap.size+1 < w3.heap.size:=(sq hb3.size);have hy3:w.heap.size < w3.heap.size:=O'))
 all_goals first
  | (go_ret;refine ⟨?_,atS⟩;refine congrArg (fun b=>Ending.returned (Value.bool b)) ?_;show (_:Bool) = _;(try clear hc2 hf2 hb2);(try clear hc3 hf3 hb3);unfold AY;(try simp only [Kz]);first | (simp [*];done) | (simp_all;done) | (simp_all;omega) | (simp_all;exact Bool.or_comm _ _))
  | skip
def Ws (ts:List bH) (eff:Int) (x:iU):Bool:=(x.effect == eff)&&!(ts.any fun t=>AY t x)
def BD (ts:List bH) (eff:Int) (xs:List iU):Nat:=(xs.filter (Ws ts eff)).length
theorem ahR {ts:List bH} {eff:Int} {xs:List iU} {k:Nat} (h:k < xs.length) (hp:Ws ts eff xs[k] = true):BD ts eff (xs.take (k+1)) = BD ts eff (xs.take k)+1:=by
 unfold BD;rw [List.take_succ_eq_append_getElem h,List.filter_append];simp [hp]
theorem ady {ts:List bH} {eff:Int} {xs:List iU} {k:Nat} (h:k < xs.length) (hp:Ws ts eff xs[k] = false):BD ts eff (xs.take (k+1)) = BD ts eff (xs.take k):=by
 unfold BD;rw [List.take_succ_eq_append_getElem h,List.filter_append];simp [hp]
theorem UN (ts:List bH) (eff:Int) (xs:List iU):BD ts eff xs≤xs.length:=List.length_filter_le _ _
theorem aee (ts:List bH) (eff:Int) (xs:List iU) (k:Nat):BD ts eff (xs.take k)≤k:=Nat.le_trans (UN _ _ _) avI
theorem UQ (ts:List bH) (xs:List iU) (eff:Int) (A B:Option Addr) (n m c d:Nat) (F G:List Nat) (w:World) (h:Sl w ts A c F) (h':Sl w xs B d G) (hn:n = ts.length) (hm:m = xs.length) (hl:(ts.length:Int)≤1048576) (hl':(xs.length:Int)≤1048576)
 (hsm:(∀t∈ts,(t.key.size:Int)≤1048576∧(t.value.size:Int)≤1048576)) (hsm':(∀x∈xs,(x.key.size:Int)≤1048576∧(x.value.size:Int)≤1048576)) :
 Calls Tryz.prog 181 #[.slice A n c,.slice B m d,.int .i64 eff] w fun e w'=>e = .returned (.int .i64 (BD ts eff xs))∧Below w.heap.size w w':=by
 subst hm;subst hn;have Eo:=I' hsm;have HSX:=I' hsm';clear hsm hsm';go_enter Tryz.func181,Tryz.ntmps181;go_wp2_with fail
 go_loopw [7,8] (fun x i wr=>∃k:Nat,k≤xs.length∧i = .int .i64 k∧x = .int .i64 (BD ts eff (xs.take k))∧Below w.heap.size w wr) (fun _ i _=>xs.length - (intOf i).toNat)
 case atStart=>exact ⟨0,Nat.zero_le _,rfl,rfl,atS⟩
 case round =>
  obtain ⟨k,hk,rfl,rfl,hbl⟩:=hrel;by_cases hlt:k < xs.length
  ·obtain ⟨b,o,ck,Fk,rfl,o9,hbs,hr,hsub,hc⟩:=(Sl.ext (w':=wr) (A:=B) (c:=d) h' hbl).get hlt;obtain ⟨hck,su,hkey,kP,lD⟩:=oK hr;subst hck;have q0:wr.cell? ⟨b,o+k * 3,none⟩ = some (.string xs[k].key):=(by exact hc 0 _ rfl);have q1:wr.cell? ⟨b,o+k * 3+1,none⟩ = some (.string xs[k].value):=(by rw [Nat.add_assoc];exact hc 1 _ rfl);have q2:wr.cell? ⟨b,o+k * 3+2,none⟩ = some (.int .i64 xs[k].effect):=(by rw [Nat.add_assoc];exact hc 2 _ rfl);clear hc;obtain ⟨hs1,hs2⟩:=HSX.out xs[k] (List.getElem_mem ..);have hnt:=aee ts eff xs k;generalize hz:(BD ts eff (xs.take k):Int) = z at *;have hkk:((xs[k].effect != eff) || (ts.take 0).any (fun t=>AY t xs[k])) = (xs[k].effect != eff):=S';obtain ⟨wo,hwo⟩:∃wo,wo = wr:=⟨_,rfl⟩;subst hwo;go_wp2_with fail
   go_loopw [9,10] (fun v u wi=>∃j:Nat,j≤ts.length∧u = .int .i64 j∧v = .bool ((xs[k].effect != eff) || (ts.take j).any (fun t=>AY t xs[k]))∧Below w.heap.size w wi∧Below wo.heap.size wo wi) (fun _ u _=>ts.length - (intOf u).toNat)
   case atStart=>exact ⟨0,Nat.zero_le _,rfl,by rw [hkk],hbl,aj _⟩
   case round =>
    obtain ⟨j,hj,rfl,rfl,hbi,hbw⟩:=hrel;replace q0:=((ay hbw).1 b _ hbs).trans q0;replace q1:=((ay hbw).1 b _ hbs).trans q1;replace q2:=((ay hbw).1 b _ hbs).trans q2;replace hbs:=Nat.lt_of_lt_of_le hbs hbw.size;by_cases hjl:j < ts.length
    ·obtain ⟨b2,o2,ck2,Fk2,rfl,hbF2,uO,hr2,hsub2,hc2⟩:=(Sl.ext (w':=wr) (A:=A) (c:=c) h hbi).get hjl;obtain ⟨hck,abT,vC,rP,uY⟩:=jv hr2;subst hck;have p0:wr.cell? ⟨b2,o2+j * 4,none⟩ = some (.string ts[j].key):=(by exact hc2 0 _ rfl);have p1:wr.cell? ⟨b2,o2+j * 4+1,none⟩ = some (.bool ts[j].equal):=(by rw [Nat.add_assoc];exact hc2 1 _ rfl);have p2:wr.cell? ⟨b2,o2+j * 4+2,none⟩ = some (.string ts[j].value):=(by rw [Nat.add_assoc];exact hc2 2 _ rfl);have p3:wr.cell? ⟨b2,o2+j * 4+3,none⟩ = some (.int .i64 ts[j].effect):=(by rw [Nat.add_assoc];exact hc2 3 _ rfl);clear hc2;obtain ⟨ht1,ht2⟩:=Eo.out ts[j] (List.getElem_mem ..);have hst:(ts.take (j+1)).any (fun t=>AY t xs[k]) = ((ts.take j).any (fun t=>AY t xs[k]) || AY ts[j] xs[k]):=(by rw [List.take_succ_eq_append_getElem hjl,List.any_append];simp);generalize hv:((xs[k].effect != eff) || (ts.take j).any (fun t=>AY t xs[k])) = v at *;have hnx:((xs[k].effect != eff) || (ts.take (j+1)).any (fun t=>AY t xs[k])) = (v || AY ts[j] xs[k]):=(by rw [hst,← Bool.or_assoc,hv]);have Jf:=I' hnx;clear hnx hst hv hkk;cases v
     all_goals
      go_wp2_with fail
      refine aF _ U' U' (aj _) ?_
      repeat (first
       | (apply aG
          case hw=>rfl
          simp only [Act.put,pz])
       | (apply aH
          case hw=>rfl
          case h =>
           intro wq hq;have hcq:=(aB hq).1;have lJ:=(aB hq).2;go_simp
           first
            | exact ⟨hq,rfl⟩
            | exact ⟨aQ hq _,rfl⟩
            | (refine (ahN ts[j] xs[k] _ _ _ [] _ (aJ hr2 atV) (Q8 _ xs[k] hkey kP lD) ht1 ht2 hs1 hs2).mono ?_;rintro e w2 ⟨rfl,hb2⟩;exact ⟨rfl,aI hq hb2⟩)
            | (simp only [↓IntWalk.iteOmega];exact ⟨hq,rfl⟩)
          simp only [Act.put,pz]))
      refine aN ?_;intro wn hn;replace hn:=hn.out;go_wp2;exact ⟨⟨j+1,O',N',by rw [Jf.out];rfl,ah hbi hn,ah hbw hn⟩,by simp [intOf];omega⟩
    ·have hjo:j = ts.length:=O';subst hjo;rw [List.take_length];cases hef:(xs[k].effect == eff) <;> cases han:(ts.any fun t=>AY t xs[k])
     all_goals
      have hp:Ws ts eff xs[k] = _:=(by unfold Ws;rw [hef,han]);simp only [Bool.false_and,Bool.true_and,Bool.not_true,Bool.not_false] at hp;first | have HN:=I' (ahR hlt hp) | have HN:=I' (ady hlt hp)
      have hne:(xs[k].effect != eff) = _:=(by unfold bne;rw [hef]);rw [hne];clear hp han;go_wp2;exact ⟨⟨k+1,O',N',by rw [HN.out,← hz] <;> first | rfl | go_num,hbi⟩,by simp [intOf];omega⟩
  ·have hkl:k = xs.length:=O';subst hkl;go_wp2;go_ret
   exact ⟨by rw [List.take_length];rfl,hbl⟩
def aaK (labels:List Label) (x:Need):Bool:=uh x &&
 (if x.op = 1 then (Df x.key labels).2&&MF (Df x.key labels).1 x.values
  else if x.op = 2 then !(Df x.key labels).2 || !MF (Df x.key labels).1 x.values
  else if x.op = 3 then (Df x.key labels).2 else !(Df x.key labels).2)
theorem apu {labels:List Label} {x:Need} (h:uh x = false):aaK labels x = false:=by unfold aaK;rw [h];rfl
theorem aiV {x:Need} (h:uh x = true):x.op = 1∨x.op = 2∨x.op = 3∨x.op = 4:=by
 unfold uh at h;exact Zad6
theorem abZ (labels:List Label) (x:Need) (A:Option Addr) (n c:Nat) (F:List Nat) (cs:List Value) (G:List Nat) (w:World) (h:Sl w labels A c F) (hn:n = labels.length) (h':rd w x cs G) (hll:(labels.length:Int)≤1048576)
 (hks:(x.key.size:Int)≤1048576) (hl:(x.values.length:Int)≤1048576) (hsm:∀v∈x.values,(v.size:Int)≤1048576) :
 Calls Tryz.prog 205 #[.slice A n c,.agg cs.toArray] w fun e w'=>e = .returned (.bool (aaK labels x))∧Below w.heap.size w w':=by
 subst hn;have Eo:=I' hsm;clear hsm;have hr:=h';obtain ⟨jy,ji,Bo,hck,qp,hkey,hop,kV⟩:=og hr;subst hck;clear qp hr;cases hK:uh x with
 | false =>
   have HF:=I' (apu (labels:=labels) hK);have HK:=I' hK;clear hK;go_enter Tryz.func205,Tryz.ntmps205;go_wp2_with fail
   refine (Rx x _ _ _ (aJ h' atS) hks hl Eo.out).mono ?_;rw [HK.out];rintro e w2 ⟨rfl,hb2⟩;exact Zaa0
 | true =>
   have hops:=aiV hK
   have HU:=I' (show aaK labels x = (if x.op = 1 then (Df x.key labels).2&&MF (Df x.key labels).1 x.values
  else if x.op = 2 then !(Df x.key labels).2 || !MF (Df x.key labels).1 x.values
  else if x.op = 3 then (Df x.key labels).2 else !(Df x.key labels).2) by unfold aaK;rw [hK,Bool.true_and])
   have HK:=I' hK;clear hK;obtain ⟨v,t,hvt⟩:∃v t,Df x.key labels = (v,t):=⟨_,_,rfl⟩;have hu:=HU.out;rw [hvt] at hu;have HL:=I' hvt;clear HU hvt;go_enter Tryz.func205,Tryz.ntmps205;go_wp2_with fail
   refine (Rx x _ _ _ (aJ h' atS) hks hl Eo.out).mono ?_;rw [HK.out];rintro e w2 ⟨rfl,hb2⟩;obtain ⟨hc2,hf2⟩:=ay hb2;have hz2:w.heap.size < w2.heap.size:=(by have:=hb2.size;simp at this;omega);have hq0:w2.cell? ⟨w.heap.size,0,none⟩ = some (.string x.key):=(by rw [hc2 _ _ S',cell_of_row _ _ _ _ _ _ (heap_alloc_new w _)];rfl);have hq1:w2.cell? ⟨w.heap.size,1,none⟩ = some (.int .i64 x.op):=(by rw [hc2 _ _ S',cell_of_row _ _ _ _ _ _ (heap_alloc_new w _)];rfl);have hq2:w2.cell? ⟨w.heap.size,2,none⟩ = some (.slice jy x.values.length ji):=(by rw [hc2 _ _ S',cell_of_row _ _ _ _ _ _ (heap_alloc_new w _)];rfl);have hB2:Below w.heap.size w w2:=atS;clear hc2 hf2;go_wp2_with fail
   refine (akK labels x.key _ _ _ _ _ (h.ext hB2) rfl hll).mono ?_;rw [HL.out];rintro e w3 ⟨rfl,hb3⟩;replace hq1:=((ay hb3).1 _ _ hz2).trans hq1;replace hq2:=((ay hb3).1 _ _ hz2).trans hq2;have hz3:w.heap.size < w3.heap.size:=(by have:=hb3.size;omega);have hB3:=ah hB2 hb3;clear hq0;have HU:=I' hu;clear hu;rcases hops with hop | hop | hop | hop
   all_goals
    have hu:=HU.out;rw [hop] at hu hq1;simp only [Int.reduceEq,↓reduceIte] at hu;cases hh:MF v x.values <;> cases t
    all_goals
     have hu2:=hu;try rw [hh] at hu2
     have HU2:=I' hu2;have HH:=I' hh;clear hu2 hu hh hop;go_wp2_with (go_at_call 216;refine (aaG x.values v _ _ _ _ _ (kV.ext atS) rfl hl).mono ?_;rw [HH.out];rintro e w4 ⟨rfl,hb4⟩)
     go_ret
     exact ⟨by rw [HU2.out];rfl,atS⟩
def Hw (labels:List Label) (xs:List Need):Bool:=xs.all (aaK labels)
theorem acu {labels:List Label} {xs:List Need} {k:Nat} (hk:k < xs.length) (h:aaK labels xs[k] = false):Hw labels xs = false:=by
 unfold Hw;rw [List.all_eq_false];exact ⟨xs[k],List.getElem_mem ..,by simp [h]⟩
theorem amX {α:Type} {p:α→Bool} {xs:List α} {k:Nat} (hk:k < xs.length) (h:∀x∈xs.take k,p x = true) (hx:p xs[k] = true):∀x∈xs.take (k+1),p x = true:=by
 rw [List.take_succ_eq_append_getElem hk];intro x hm;rcases List.mem_append.1 hm with hm | hm
 ·exact h x hm
 ·simp only [List.mem_singleton] at hm;rw [hm];exact hx
theorem acv {labels:List Label} {xs:List Need} (h:∀x∈xs,aaK labels x = true):Hw labels xs = true:=by
 unfold Hw;rw [List.all_eq_true];exact h
theorem alb (xs:List Need) (labels:List Label) (A B:Option Addr) (n m c d:Nat) (F G:List Nat) (w:World) (h:Sl w xs A c F) (h':Sl w labels B d G) (hn:n = xs.length) (hm:m = labels.length) (hl:(xs.length:Int)≤1048576) (hll:(labels.length:Int)≤1048576)
 (hsm:(∀l∈xs,(l.key.size:Int)≤1048576∧(l.values.length:Int)≤1048576∧∀v∈l.values,(v.size:Int)≤1048576)) :
 Calls Tryz.prog 180 #[.slice A n c,.slice B m d] w fun e w'=>e = .returned (.bool (Hw labels xs))∧Below w.heap.size w w':=by
 subst hn hm;have Eo:=I' hsm;clear hsm;go_enter Tryz.func180,Tryz.ntmps180;go_wp2_with fail
 go_loopw [5] (fun i wr=>∃k:Nat,k≤xs.length∧i = .int .i64 k∧Hid (∀x∈xs.take k,aaK labels x = true)∧Below w.heap.size w wr) (fun i _=>xs.length - (intOf i).toNat)
 case atStart=>exact ⟨0,Nat.zero_le _,rfl,by show ∀_,_;simp,atS⟩
 case round =>
  obtain ⟨k,hk,rfl,HN,hbl⟩:=hrel;by_cases hlt:k < xs.length
  ·obtain ⟨b,o,ck,Fk,rfl,o9,hbs,hr,hsub,hc⟩:=(Sl.ext (w':=wr) (A:=A) (c:=c) h hbl).get hlt;obtain ⟨jy,ji,Bo,hck,su,hkey,hop,kV⟩:=og hr;subst hck;have q0:wr.cell? ⟨b,o+k * 3,none⟩ = some (.string xs[k].key):=(by exact hc 0 _ rfl);have q1:wr.cell? ⟨b,o+k * 3+1,none⟩ = some (.int .i64 xs[k].op):=(by rw [Nat.add_assoc];exact hc 1 _ rfl);have q2:wr.cell? ⟨b,o+k * 3+2,none⟩ = some (.slice jy xs[k].values.length ji):=(by rw [Nat.add_assoc];exact hc 2 _ rfl);clear hc;obtain ⟨hs1,hs2,hs3⟩:=Eo.out xs[k] (List.getElem_mem ..);cases hp:aaK labels xs[k] with
   | true =>
     have Gn:=I' (amX hlt HN.out hp);have HP:=I' hp;clear hp;go_wp2_with fail
     refine (abZ labels xs[k] _ _ _ _ _ _ _ (h'.ext atS) rfl (aJ hr atS) hll hs1 hs2 hs3).mono ?_;rw [HP.out];rintro e wn ⟨rfl,hn⟩;exact Zaea
   | false =>
     have HF:=I' (acu hlt hp);have HP:=I' hp;clear hp;go_wp2_with fail
     refine (abZ labels xs[k] _ _ _ _ _ _ _ (h'.ext atS) rfl (aJ hr atS) hll hs1 hs2 hs3).mono ?_;rw [HP.out];rintro e wn ⟨rfl,hn⟩;exact Zaa0
  ·have hkl:k = xs.length:=O';subst hkl;have hn:=HN.out;rw [List.take_length] at hn;have HF:=I' (acv hn);clear hn;exact Zaa0
end Go.Proofs.YtkjeocdobidadaaGreat
