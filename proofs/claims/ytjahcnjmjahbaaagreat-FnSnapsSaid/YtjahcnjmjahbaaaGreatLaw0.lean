/- Small lemmas for laws. No condition. -/
import Derived.Test.YtjahcnjmjahbaaaGreatAt
import Derived.Test.YtjahcnjmjahbaaaGreatDeed
import Derived.Shelf.Small.Bits
import Derived.Shelf.Bits.Mul64
namespace Go.Proofs.YtjahcnjmjahbaaaGreat
open Go.ChangeShapes Go.WideShapes Go.ChangeAt Go.RowKit
set_option linter.unusedVariables false
set_option linter.unusedSimpArgs false
set_option maxHeartbeats 2000000
set_option maxRecDepth 100000
theorem aZ {α:Type} [bd α] {w w':World} {x:α} {cs:List Value} {F:List Nat} (h:rd w x cs F) (hb:Below w.heap.size w w'):rd w' x cs F :=
 bd.frame h (fun b d9=>hb.block b (bd.lt h b d9)) hb.size
def MF (s:ByteArray) (xs:List ByteArray):Bool:=xs.any fun v=>v.toList == s.toList
theorem ar4 {s:ByteArray} {xs:List ByteArray} {k:Nat} (hk:k < xs.length) (hp:(xs[k].toList == s.toList) = true):MF s xs = true:=by
 unfold MF;rw [List.any_eq_true];exact ⟨xs[k],List.getElem_mem ..,hp⟩
theorem atn {s:ByteArray} {xs:List ByteArray} (hn:∀v∈xs,(v.toList == s.toList) = false):MF s xs = false:=by
 unfold MF;rw [List.any_eq_false];intro v hv;simp [hn v hv]
theorem aaG (xs:List ByteArray) (s:ByteArray) (A:Option Addr) (n c:Nat) (F:List Nat) (w:World) (h:Sl w xs A c F) (hn:n = xs.length) (hl:(xs.length:Int)≤1048576) :
 Calls Tryz.prog 234 #[.slice A n c,.string s] w fun e w'=>e = .returned (.bool (MF s xs))∧Below w.heap.size w w':=by
 subst hn;go_enter Tryz.func234,Tryz.ntmps234;go_wp2_with fail
 go_loopw [5] (fun i wr=>∃k:Nat,k≤xs.length∧i = .int .i64 k∧Hid (∀v∈xs.take k,(v.toList == s.toList) = false)∧Below w.heap.size w wr) (fun i _=>xs.length - (intOf i).toNat)
 case atStart=>exact ⟨0,Nat.zero_le _,rfl,by show ∀_,_;simp,bs⟩
 case round =>
  obtain ⟨k,hk,rfl,HN,aE⟩:=hrel;by_cases ap:k < xs.length
  ·obtain ⟨b,o,ck,Fk,rfl,o9,hbs,hr,bv,hc⟩:=(Sl.ext (w':=wr) (A:=A) (c:=c) h aE).get ap;obtain ⟨aw,su,eQ⟩:=hr;subst aw su;have q0:wr.cell? ⟨b,o+k,none⟩ = some (.string xs[k]):=(by have:=hc 0 _ rfl;rwa [show o+(k * bd.size ByteArray+0) = o+k from by show o+(k * 1+0) = _;omega] at this);clear hc;cases hp:(xs[k].toList == s.toList) with
   | true =>have oo:(s.toList == xs[k].toList) = true:=(by rw [BEq.comm];exact hp);have HF:=I (ar4 ap hp);exact ej
   | false =>have oo:(s.toList == xs[k].toList) = false:=(by rw [BEq.comm];exact hp);have Gn:=I (yQ (p:=fun v:ByteArray=>v.toList == s.toList) ap HN.out hp);exact Am
  ·have bx:k = xs.length:=J;subst bx;have hn:=HN.out;rw [List.take_length] at hn;have HF:=I (atn hn);clear hn;exact ej
theorem BH {xs:List iU} (h:(kL iU.wt xs:Int)≤1048576):((xs.length:Int)≤1048576)∧∀l∈xs,(l.key.size:Int)≤1048576∧(l.value.size:Int)≤1048576:=by
 refine ⟨by have:=gJ iU.wt xs;omega,fun l hl=>?_⟩;have h1:=Bq (f:=iU.wt) hl;have e:iU.wt l = l.key.size+l.value.size:=rfl;omega
theorem FQ {xs:List bH} (h:(kL bH.wt xs:Int)≤1048576):((xs.length:Int)≤1048576)∧∀l∈xs,(l.key.size:Int)≤1048576∧(l.value.size:Int)≤1048576:=by
 refine ⟨by have:=gJ bH.wt xs;omega,fun l hl=>?_⟩;have h1:=Bq (f:=bH.wt) hl;have e:bH.wt l = l.key.size+l.value.size:=rfl;omega
theorem yg {α:Type} (p:α→Bool) (xs:List α):pK p xs = -1∨∃k:Nat,k < xs.length∧pK p xs = k:=by
 have:=Nc (p:=p) xs;by_cases h:pK p xs < 0
 ·left;omega
 ·right;exact ⟨(pK p xs).toNat,J,J⟩
theorem Aa {xs:List ba} (h:(kL ba.wt xs:Int)≤1048576):((xs.length:Int)≤1048576)∧(∀l∈xs,(l.key.size:Int)≤1048576∧(l.values.length:Int)≤1048576∧∀v∈l.values,(v.size:Int)≤1048576):=by
 refine ⟨by have:=gJ ba.wt xs;omega,fun l hl=>?_⟩;have h1:=Bq (f:=ba.wt) hl;have e:ba.wt l = l.key.size+D4 l.values:=rfl;have h2:=gJ ByteArray.size l.values;unfold D4 at e;refine ⟨J,J,fun v hv=>?_⟩;have h3:=Bq (f:=ByteArray.size) hv;omega
theorem sW {xs:List ao} (h:(kL ao.wt xs:Int)≤1048576):((xs.length:Int)≤1048576)∧∀l∈xs,(l.key.size:Int)≤1048576∧(l.value.size:Int)≤1048576:=by
 refine ⟨by have:=gJ ao.wt xs;omega,fun l hl=>?_⟩;have h1:=Bq (f:=ao.wt) hl;have e:ao.wt l = l.key.size+l.value.size:=rfl;omega
def JO (key:ByteArray) (l:ao):Bool:=l.key.toList == key.toList
def Df (key:ByteArray) (xs:List ao):ByteArray × Bool:=match xs.find? (JO key) with | some l=>(l.value,true) | none=>(⟨#[]⟩,false)
theorem adM {key:ByteArray} {xs:List ao} {k:Nat} (hk:k < xs.length) (hn:∀l∈xs.take k,JO key l = false) (hp:JO key xs[k] = true):Df key xs = (xs[k].value,true):=by
 have e:xs.find? (JO key) = some xs[k]:=by rw [List.find?_eq_some_iff_append];exact ⟨hp,xs.take k,xs.drop (k+1),by rw [List.getElem_cons_drop,List.take_append_drop],fun a ha=>by simp [hn a ha]⟩
 unfold Df;rw [e]
theorem agB {key:ByteArray} {xs:List ao} (hn:∀l∈xs,JO key l = false):Df key xs = (⟨#[]⟩,false):=by
 have e:xs.find? (JO key) = none:=by rw [List.find?_eq_none];intro l hl;simp [hn l hl]
 unfold Df;rw [e]
theorem akK (xs:List ao) (key:ByteArray) (A:Option Addr) (n c:Nat) (F:List Nat) (w:World) (h:Sl w xs A c F) (hn:n = xs.length) (hl:(xs.length:Int)≤1048576) :
 Calls Tryz.prog 233 #[.slice A n c,.string key] w fun e w'=>e = .returned (.tuple #[.string (Df key xs).1,.bool (Df key xs).2])∧Below w.heap.size w w':=by
 subst hn;go_enter Tryz.func233,Tryz.ntmps233;go_wp2_with fail
 go_loopw [6] (fun i wr=>∃k:Nat,k≤xs.length∧i = .int .i64 k∧Hid (∀l∈xs.take k,JO key l = false)∧Below w.heap.size w wr) (fun i _=>xs.length - (intOf i).toNat)
 case atStart=>exact ⟨0,Nat.zero_le _,rfl,by show ∀_,_;simp,bs⟩
 case round =>
  obtain ⟨k,hk,rfl,HN,aE⟩:=hrel;by_cases ap:k < xs.length
  ·obtain ⟨b,o,ck,Fk,rfl,o9,hbs,hr,bv,hc⟩:=(Sl.ext (w':=wr) (A:=A) (c:=c) h aE).get ap;obtain ⟨aw,su,ca,kP⟩:=vO hr;subst aw;obtain ⟨q0,q1⟩:=uy 2 hc;clear hc;cases hp:JO key xs[k] with
   | true =>
     have HF:=I (adM ap HN.out hp);unfold JO at hp;go_wp2;go_returns
     exact ⟨by rw [HF.out];rfl,bs⟩
   | false =>have Gn:=I (yQ ap HN.out hp);unfold JO at hp;exact Am
  ·have bx:k = xs.length:=J;subst bx;have hn:=HN.out;rw [List.take_length] at hn;have HF:=I (agB hn);clear hn;go_wp2;go_returns
   exact ⟨by rw [HF.out];rfl,bs⟩
theorem ahN (x:bH) (y:iU) (cs ds:List Value) (F G:List Nat) (w:World) (h:rd w x cs F) (h':rd w y ds G) (kk:(x.key.size:Int)≤1048576) (m':(x.value.size:Int)≤1048576) (aiD:(y.key.size:Int)≤1048576) (UK:(y.value.size:Int)≤1048576) :
 Calls Tryz.prog 203 #[.agg cs.toArray,.agg ds.toArray] w fun e w'=>e = .returned (.bool (AY x y))∧Below w.heap.size w w':=by
 obtain ⟨aw,hF1,xO,xk,zT⟩:=jv h;obtain ⟨jU,ld,vC,rP,uY⟩:=oK h';subst aw jU;subst hF1 ld;go_enter Tryz.func203,Tryz.ntmps203
 go_wp2_with (first
  | (go_at_call 139;refine (Nb x _ [] _ (aJ h bs) kk m').mono ?_;rintro e w2 ⟨rfl,av⟩;obtain ⟨ce,cK⟩:=ay av;have cD:w.heap.size+1 < w2.heap.size:=(sq av.size);have mz:w.heap.size < w2.heap.size:=J)
  | (go_at_call 141;refine (Wh y _ [] _ (aJ h' bs) aiD UK).mono ?_;rintro e w3 ⟨rfl,bj⟩;obtain ⟨cP,hf3⟩:=ay bj;have eK:w.heap.size+1 < w3.heap.size:=(sq bj.size);have DJ:w.heap.size < w3.heap.size:=J))
 all_goals first
  | (go_ret;refine ⟨?_,bs⟩;refine congrArg (fun b=>Ending.returned (Value.bool b)) ?_;show (_:Bool) = _;(try clear ce cK av);(try clear cP hf3 bj);unfold AY;(try simp only [Kz]);first | (simp [*];done) | (simp_all;done) | (simp_all;omega) | (simp_all;exact Bool.or_comm _ _))
  | skip
def Ws (ts:List bH) (gx:Int) (x:iU):Bool:=(x.al == gx)&&!(ts.any fun t=>AY t x)
def BD (ts:List bH) (gx:Int) (xs:List iU):Nat:=(xs.filter (Ws ts gx)).length
theorem ahR {ts:List bH} {gx:Int} {xs:List iU} {k:Nat} (h:k < xs.length) (hp:Ws ts gx xs[k] = true):BD ts gx (xs.take (k+1)) = BD ts gx (xs.take k)+1:=by
 unfold BD;rw [List.take_succ_eq_append_getElem h,List.filter_append];simp [hp]
theorem ady {ts:List bH} {gx:Int} {xs:List iU} {k:Nat} (h:k < xs.length) (hp:Ws ts gx xs[k] = false):BD ts gx (xs.take (k+1)) = BD ts gx (xs.take k):=by
 unfold BD;rw [List.take_succ_eq_append_getElem h,List.filter_append];simp [hp]
theorem UN (ts:List bH) (gx:Int) (xs:List iU):BD ts gx xs≤xs.length:=List.length_filter_le _ _
theorem aee (ts:List bH) (gx:Int) (xs:List iU) (k:Nat):BD ts gx (xs.take k)≤k:=Nat.le_trans (UN _ _ _) Se
theorem UQ (ts:List bH) (xs:List iU) (gx:Int) (A B:Option Addr) (n m c d:Nat) (F G:List Nat) (w:World) (h:Sl w ts A c F) (h':Sl w xs B d G) (hn:n = ts.length) (hm:m = xs.length) (hl:(ts.length:Int)≤1048576) (vQ:(xs.length:Int)≤1048576)
 (cX:(∀t∈ts,(t.key.size:Int)≤1048576∧(t.value.size:Int)≤1048576)) (L9:(∀x∈xs,(x.key.size:Int)≤1048576∧(x.value.size:Int)≤1048576)) :
 Calls Tryz.prog 180 #[.slice A n c,.slice B m d,.int .i64 gx] w fun e w'=>e = .returned (.int .i64 (BD ts gx xs))∧Below w.heap.size w w':=by
 subst hm;subst hn;have Eo:=I cX;have HSX:=I L9;clear cX L9;go_enter Tryz.func180,Tryz.ntmps180;go_wp2_with fail
 go_loopw [7,8] (fun x i wr=>∃k:Nat,k≤xs.length∧i = .int .i64 k∧x = .int .i64 (BD ts gx (xs.take k))∧Below w.heap.size w wr) (fun _ i _=>xs.length - (intOf i).toNat)
 case atStart=>exact ⟨0,Nat.zero_le _,rfl,rfl,bs⟩
 case round =>
  obtain ⟨k,hk,rfl,rfl,aE⟩:=hrel;by_cases ap:k < xs.length
  ·obtain ⟨b,o,ck,Fk,rfl,o9,hbs,hr,bv,hc⟩:=(Sl.ext (w':=wr) (A:=B) (c:=d) h' aE).get ap;obtain ⟨aw,su,ca,kP,lD⟩:=oK hr;subst aw;obtain ⟨q0,q1,q2⟩:=iX 3 hc;clear hc;obtain ⟨cJ,cE⟩:=HSX.out xs[k] (List.getElem_mem ..);have hnt:=aee ts gx xs k;generalize hz:(BD ts gx (xs.take k):Int) = z at *;have nv:((xs[k].al != gx) || (ts.take 0).any (fun t=>AY t xs[k])) = (xs[k].al != gx):=S';obtain ⟨wo,hwo⟩:∃wo,wo = wr:=⟨_,rfl⟩;subst hwo;go_wp2_with fail
   go_loopw [9,10] (fun v u wi=>∃j:Nat,j≤ts.length∧u = .int .i64 j∧v = .bool ((xs[k].al != gx) || (ts.take j).any (fun t=>AY t xs[k]))∧Below w.heap.size w wi∧Below wo.heap.size wo wi) (fun _ u _=>ts.length - (intOf u).toNat)
   case atStart=>exact ⟨0,Nat.zero_le _,rfl,by rw [nv],aE,aj _⟩
   case round =>
    obtain ⟨j,hj,rfl,rfl,hbi,ni⟩:=hrel;replace q0:=r' ni q0 hbs;replace q1:=r' ni q1 hbs;replace q2:=r' ni q2 hbs;replace hbs:=Nat.lt_of_lt_of_le hbs ni.size;by_cases gC:j < ts.length
    ·obtain ⟨b2,o2,ck2,Fk2,rfl,ayO,uO,fc,iY,ce⟩:=(Sl.ext (w':=wr) (A:=A) (c:=c) h hbi).get gC;obtain ⟨aw,abT,vC,rP,uY⟩:=jv fc;subst aw;obtain ⟨p0,p1,p2,p3⟩:=qT 4 ce;clear ce;obtain ⟨zR,DY⟩:=Eo.out ts[j] (List.getElem_mem ..);have Qj:(ts.take (j+1)).any (fun t=>AY t xs[k]) = ((ts.take j).any (fun t=>AY t xs[k]) || AY ts[j] xs[k]):=(by rw [List.take_succ_eq_append_getElem gC,List.any_append];simp);generalize hv:((xs[k].al != gx) || (ts.take j).any (fun t=>AY t xs[k])) = v at *;have d':((xs[k].al != gx) || (ts.take (j+1)).any (fun t=>AY t xs[k])) = (v || AY ts[j] xs[k]):=(by rw [Qj,← Bool.or_assoc,hv]);have Jf:=I d';clear d' Qj hv nv;cases v
     all_goals
      go_wp2_with fail
      refine aF _ U' U' (aj _) ?_
      repeat (first
       | (apply aG
          case hw=>rfl
          simp only [Act.put,pz])
       | (apply aH
          case hw=>rfl
          case h =>
           intro wq hq;have dc:=(aB hq).1;have lJ:=(aB hq).2;go_simp
           first
            | exact ⟨hq,rfl⟩
            | exact ⟨aQ hq _,rfl⟩
            | (refine (ahN ts[j] xs[k] _ _ _ [] _ (aJ fc Za) (Q8 _ xs[k] ca kP lD) zR DY cJ cE).mono ?_;rintro e w2 ⟨rfl,av⟩;exact ⟨rfl,aI hq av⟩)
            | (simp only [↓IntWalk.iteOmega];exact ⟨hq,rfl⟩)
          simp only [Act.put,pz]))
      refine aN ?_;intro wn hn;replace hn:=hn.out;go_wp2;exact ⟨⟨j+1,J,N',by rw [Jf.out];rfl,ah hbi hn,ah ni hn⟩,by simp [intOf];omega⟩
    ·have I6:j = ts.length:=J;subst I6;rw [List.take_length];cases hef:(xs[k].al == gx) <;> cases han:(ts.any fun t=>AY t xs[k])
     all_goals
      have hp:Ws ts gx xs[k] = _:=(by unfold Ws;rw [hef,han]);simp only [Bool.false_and,Bool.true_and,Bool.not_true,Bool.not_false] at hp;first | have HN:=I (ahR ap hp) | have HN:=I (ady ap hp)
      have cq:(xs[k].al != gx) = _:=(by unfold bne;rw [hef]);rw [cq];clear hp han;go_wp2;exact ⟨⟨k+1,J,N',by rw [HN.out,← hz] <;> first | rfl | go_num,hbi⟩,by simp [intOf];omega⟩
  ·exact zF
theorem YO {P:Program} {C:World→Prop} {v:Value} {r:Result Next} {w:World} (e:r = .ok (.value v) w) (h:C w):ft P C v r:=by subst e;exact ⟨h,rfl⟩
def CQ (part whole:Int):Int:=if whole≤0∨part < 0 then 0 else if whole≤part then 100 else 100 * part / whole
theorem Ot {part whole:Int} (h:whole≤0∨part < 0):CQ part whole = 0:=by unfold CQ;rw [if_pos h]
theorem aa2 {part whole:Int} (h1:¬whole≤0) (h2:¬part < 0) (h:whole≤part):CQ part whole = 100:=by unfold CQ;rw [if_neg J,if_pos h]
theorem aa3 {P W:Nat} (hW:0 < W) (h:P < W):CQ P W = ((100 * P / W:Nat):Int):=by
 unfold CQ;rw [if_neg J,if_neg J,Int.natCast_ediv,Int.natCast_mul];rfl
theorem zJ (part whole:Int):0≤CQ part whole∧CQ part whole≤100:=by
 by_cases h1:whole≤0∨part < 0
 ·rw [Ot h1];omega
 ·by_cases h2:whole≤part
  ·rw [aa2 J J h2];omega
  ·obtain ⟨P,rfl⟩:∃P:Nat,part = P:=⟨part.toNat,J⟩;obtain ⟨W,rfl⟩:∃W:Nat,whole = W:=⟨whole.toNat,J⟩;rw [aa3 J J];have:100 * P / W≤100:=(by rw [Nat.div_le_iff_le_mul_add_pred J];rw [Nat.mul_comm W 100];have:100 * P≤100 * W:=Nat.mul_le_mul_left _ J;omega);generalize 100 * P / W = Q at *;omega
theorem IB (part whole:Int) (w:World) (hp:bi part) (hw:bi whole) :
 Calls Tryz.prog 178 #[.int .i64 part,.int .i64 whole] w fun e w'=>e = .returned (.int .i64 (CQ part whole))∧Below w.heap.size w w':=by
 by_cases h1:whole≤0
 ·have hd:decide (whole≤0) = true:=by rw [decide_eq_true_eq];exact h1
  have hs:=I (Ot (part:=part) (.inl h1));exact z8
 have hd:decide (whole≤0) = false:=by rw [decide_eq_false_iff_not];exact h1
 by_cases h2:part < 0
 ·have UJ:decide (part < 0) = true:=by rw [decide_eq_true_eq];exact h2
  have hs:=I (Ot (whole:=whole) (.inr h2));exact z8
 have UJ:decide (part < 0) = false:=by rw [decide_eq_false_iff_not];exact h2
 by_cases h3:whole≤part
 ·have Uj:decide (whole≤part) = true:=by rw [decide_eq_true_eq];exact h3
  have hs:=I (aa2 h1 h2 h3);exact z8
 have Uj:decide (whole≤part) = false:=by rw [decide_eq_false_iff_not];exact h3
 obtain ⟨P,rfl⟩:∃P:Nat,part = P:=⟨part.toNat,J⟩;obtain ⟨W,rfl⟩:∃W:Nat,whole = W:=⟨whole.toNat,J⟩;have hW:W < 9223372036854775808:=by have:=hw.2;omega
 have hPW:P < W:=by omega
 have hs:=I (aa3 (P:=P) (W:=W) J hPW);have ra:0 < W:=by omega
 clear hp hw h1 h2 h3;go_enter Tryz.func178,Tryz.ntmps178;go_wp2_with fail
 go_loopw [5,6,7] (fun n r i wr=>∃(j N R:Nat),j≤100∧n = .int .i64 N∧r = .int .i64 R∧i = .int .i64 j∧Hid (N * W+R = j * P)∧R < W∧N≤j∧wr = w) (fun _ _ i _=>100 - (intOf i).toNat)
 case atStart=>exact ⟨0,0,0,J,rfl,rfl,rfl,I S',ra,Nat.le_refl _,rfl⟩
 case round =>
  obtain ⟨j,N,R,hj,rfl,rfl,rfl,HN,hR,hNj,rfl⟩:=hrel;by_cases ap:(j:Int) < 100
  ·by_cases hc:(W:Int) - (P:Int)≤(R:Int)
   ·have lM:decide ((W:Int) - (P:Int)≤(R:Int)) = true:=(by rw [decide_eq_true_eq];exact hc);go_wp2_with fail
    refine ⟨⟨j+1,N+1,R - (W - P),J,N',N',N',I ?_,J,J,(by first | rfl | trivial)⟩,by simp [intOf];omega⟩;have:=HN.out;rw [Nat.add_mul,Nat.add_mul];omega
   ·have lM:decide ((W:Int) - (P:Int)≤(R:Int)) = false:=(by rw [decide_eq_false_iff_not];exact hc);go_wp2_with fail
    refine ⟨⟨j+1,N,R+P,J,rfl,N',N',I ?_,J,J,(by first | rfl | trivial)⟩,by simp [intOf];omega⟩;have:=HN.out;rw [Nat.add_mul j];omega
  ·obtain rfl:j = 100:=by omega
   go_wp2_with fail
   go_ret
   exact ⟨by rw [hs.out,← apY HN.out hR];rfl,aj _⟩
section
variable {P:Program} {l:List Oper} {C:World→Prop} {Q:Exit→Act→World→Prop}
def mn (P:Program) (l:List Oper) (Q:Exit→Act→World→Prop) (C:World→Prop) (n:Nat) (aq:Array Bool) (a:Act) (w:World):Prop:=wpAnyH P .any l.toArray Q C n aq a w
theorem zU {id:Nat} {a:Act} {w:World} (w0:World) (n:Nat) (hm:P.follows .mixedOrders = true) (hn:l.toArray.size = n) (hw:Below w0.heap.size w0 w)
 (h:mn P l Q (gY w0) n (Array.replicate n false) a w.drew):(Code.region id l.toArray true).wp P Q a w:=by
 subst hn;exact wp_region_held_drew (S:=gY w0) hm (aA hw) fun _=>h
theorem aX {n:Nat} {aq:Array Bool} {a:Act} {w:World} (i:Nat) {o:Oper} (v:Value) (ho:l[i]? = some o) (hB:(Region.noSelect l.toArray&&Region.free .any l.toArray aq i&&(Region.ready .any l.toArray aq).contains i) = true)
 (hQ:∀c a d v w,Q (.panic c) (Act.put a d v) w→Q (.panic c) a w) (hC:C w) (hy:YieldsIf P l.toArray C o v a) (h:mn P l Q C n (aq.setIfInBounds i true) (a.put o.dst v) w):mn P l Q C (n+1) aq a w:=by
 simp only [Bool.and_eq_true] at hB;exact wpAnyH_take (by simpa using ho) hB.1.1 hB.1.2 hB.2 (fun c a' w'=>hQ c a' _ v w') hy hC h
theorem Tc {n:Nat} {aq:Array Bool} {a:Act} {w:World} {i:Nat} {o:Oper} (ho:l[i]? = some o) (hw:Region.wanted o (yielded l.toArray a.tmps) = true)
 (h:∀K:Act→World→Prop,(∀a' w',C w'→mn P l Q C n (aq.setIfInBounds i true) a' w'→K a' w')→o.wp P a w K Q) :
 wpOp P l.toArray Q i (fun a' w'=>C w'∧wpAnyH P .any l.toArray Q C n (aq.setIfInBounds i true) a' w') a w:=by
 unfold wpOp;rw [show l.toArray[i]? = some o by simpa using ho];dsimp only;rw [if_pos hw];exact .inl (h _ fun a' w' h1 h2=>⟨h1,h2⟩)
theorem bP {n:Nat} {aq:Array Bool} {a:Act} {w:World} (i:Nat) {o:Oper} (ho:l[i]? = some o) (hr:Region.ready .any l.toArray aq = [i]) (hw:Region.wanted o (yielded l.toArray a.tmps) = true)
 (h:∀K:Act→World→Prop,(∀a' w',C w'→mn P l Q C n (aq.setIfInBounds i true) a' w'→K a' w')→o.wp P a w K Q):mn P l Q C (n+1) aq a w :=
 wpAnyH_all hr S' fun j hj=>by
  obtain rfl:j = i:=by simpa using hj
  exact Tc ho hw h
theorem D7 {n:Nat} {aq:Array Bool} {a:Act} {w:World} (i j:Nat) {o o':Oper} (ho:l[i]? = some o) (ho':l[j]? = some o') (hr:Region.ready .any l.toArray aq = [i,j]) (hw:Region.wanted o (yielded l.toArray a.tmps) = true) (hJ:Region.wanted o' (yielded l.toArray a.tmps) = true)
 (h:∀K:Act→World→Prop,(∀a' w',C w'→mn P l Q C n (aq.setIfInBounds i true) a' w'→K a' w')→o.wp P a w K Q)
 (h':∀K:Act→World→Prop,(∀a' w',C w'→mn P l Q C n (aq.setIfInBounds j true) a' w'→K a' w')→o'.wp P a w K Q):mn P l Q C (n+1) aq a w :=
 wpAnyH_all hr S' fun k hk=>by
  simp only [List.mem_cons,List.not_mem_nil,or_false] at hk;rcases hk with rfl | rfl
  ·exact Tc ho hw h
  ·exact Tc ho' hJ h'
theorem YU {n:Nat} {aq:Array Bool} {a:Act} {w:World} (E:Act→Act→World→Prop) (hE:∀a' w',E a a' w'→Q .normal a' w') (h:(∀a' w',E a a' w'→Q .normal a' w')→mn P l Q C n aq a w):mn P l Q C n aq a w:=h hE
theorem nR {aq:Array Bool} {a:Act} {w:World} (hr:Region.ready .any l.toArray aq = []) (h:Q .normal a w):mn P l Q C 0 aq a w:=wpAnyH_done hr h 0
end
section
variable {P:Program} {ops:Array Oper} {md:Region.Mode} {C:World→Prop} {Q:Exit→Act→World→Prop}
def xt (ops:Array Oper) (js ks:List Nat) (m:Nat):Bool :=
 Region.noSelect ops&&decide (m+(ks.length+js.length) = ops.size)&&VH .any ops js (Array.replicate ops.size false)&&Lf .any ops ks (zY js (Array.replicate ops.size false))&&js.all (fun i=>PN .any ops (zY ks (zY js (Array.replicate ops.size false))) i)
theorem azp {id:Nat} {a:Act} {w:World} {l:List Oper} (C C2:World→Prop) (js ks:List Nat) (m:Nat) (hm:P.follows .mixedOrders = true) (hB:xt l.toArray js ks m = true) (hQ:∀c a d v w,Q (.panic c) (Act.put a d v) w→Q (.panic c) a w)
 (hC:C w.drew) (h:OQ P l.toArray C (fun a'=>Lr P l.toArray C Q (mn P l Q C2 m (zY ks (zY js (Array.replicate l.toArray.size false)))) (cH l ks) a' w.drew) (cH l js) a):(Code.region id l.toArray true).wp P Q a w:=by
 simp only [xt,Bool.and_eq_true] at hB;obtain ⟨⟨⟨⟨hs,hn⟩,hh⟩,hk⟩,hg⟩:=hB;rw [decide_eq_true_eq] at hn;let L:=zY ks (zY js (Array.replicate l.toArray.size false))
 let E:Array Bool→Act→World→Prop:=fun q b w'=>q = L∧mn P l Q C2 m L b w'
 have mono:∀(zz:List Oper) (b:Act),OQ P l.toArray C (fun a'=>Lr P l.toArray C Q (mn P l Q C2 m (zY ks (zY js (Array.replicate l.toArray.size false)))) (cH l ks) a' w.drew) zz b →
     OQ P l.toArray C (fun a'=>V6 P .any l.toArray Q C E ks.length (zY js (Array.replicate l.toArray.size false)) a' w.drew) zz b:=by
  intro zz;induction zz with
  | nil =>
    intro b hb;refine TI (md:=.any) l ks _ b w.drew rfl hk ?_;have e:E (zY ks (zY js (Array.replicate l.toArray.size false))) = mn P l Q C2 m (zY ks (zY js (Array.replicate l.toArray.size false))):=by
     funext b w';exact propext ⟨fun h=>h.2,fun h=>⟨rfl,h⟩⟩
    rw [e];exact hb
  | cons o zz ih =>intro b ⟨v,hy,hb⟩;exact ⟨v,hy,ih _ hb⟩
 have h1:=ZX (md:=.any) (P:=P) (C:=C) (E:=E) hs hQ hC L (fun l a w he=>he.1) l js ks.length (Array.replicate l.toArray.size false) a rfl hh hg (mono _ _ h)
 have h2:=TH (md:=.any) (P:=P) (C:=C) (E:=E) (m:=m) (fun q b w' he=>by
  obtain ⟨rfl,hl⟩:=he
  exact wpAny_of_held _ _ _ _ hl) _ _ _ _ h1
 rw [hn] at h2;exact wp_region_any hm h2
end
theorem qQ {P:Program} {t e:TypeId} {z:Value} {size bytes:Nat} (hE:DL P t e z size bytes) {o:Oper} {a:Act} {K:Act→World→Prop} {Q:Exit→Act→World→Prop} (s x:Operand)
 (ho:o.op = .call { callee:=.builtin .append,args:=#[s,x],argTypes:=#[t,t] })
 (w:World) (base:Nat) (v:Value) (n:Nat) (xs:List Value) (aR:w.ownsRow base e size v n xs) (hs:a.eval s = v)
 (ad:Addr) (m c:Nat) (fs:List Value) (hx:a.eval x = .slice (some ad) m c) (hl:fs.length = m * size) (gp:∀j u,fs[j]? = some u→w.cell? (ad.add j) = some u) (h1:∀u∈fs,u.oneCell' = true)
 (hn:n+m≤2097152) (mj:bytes≤4096) (du:base≤w.heap.size)
 (h:∀v' w',w'.ownsRow base e size v' (n+m) (xs++fs)→w.grownBy w' v.ownBlock→(v'.ownBlock = v.ownBlock∨v'.ownBlock = some w.heap.size)→K (a.put o.dst v') w'):o.wp P a w K Q:=by
 obtain ⟨ht,hi0,km,eQ⟩:=hE;obtain ⟨i,hi,hz,hsize,hb⟩:=info_parts hi0;have o4:(n+m) * bytes≤2097152 * 4096:=Nat.mul_le_mul J mj;obtain ⟨v',w',hr,h2,h3,h4,h5⟩:=run_append_own_at (P:=P) w base t o.type e i z size bytes ht hi hz hsize hb km eQ v n xs aR ad m c fs hl gp h1 ja J du;unfold Oper.wp execOp;simp only [ho,resolve,invoke,builtin,Sem.run_bind,Sem.run_pure,Result.andThen_ok,List.map_toArray,List.map_cons,List.map_nil,hs,hx,hr];exact h v' w' h2 h3 h5
theorem xW {P:Program} {t e:TypeId} {z:Value} {size bytes:Nat} (hE:DL P t e z size bytes) {ops:Array Oper} {rest:List Oper} {o:Oper} {a:Act} {Q:Exit→Act→World→Prop} (sM:o.guard = none) (s x:Operand)
 (ho:o.op = .call { callee:=.builtin .append,args:=#[s,x],argTypes:=#[t,t] })
 (w:World) (base:Nat) (v:Value) (n:Nat) (xs:List Value) (aR:w.ownsRow base e size v n xs) (hs:a.eval s = v)
 (ad:Addr) (m c:Nat) (fs:List Value) (hx:a.eval x = .slice (some ad) m c) (hl:fs.length = m * size) (gp:∀j u,fs[j]? = some u→w.cell? (ad.add j) = some u) (h1:∀u∈fs,u.oneCell' = true)
 (hn:n+m≤2097152) (mj:bytes≤4096) (du:base≤w.heap.size)
 (h:∀v' w',w'.ownsRow base e size v' (n+m) (xs++fs)→w.grownBy w' v.ownBlock→(v'.ownBlock = v.ownBlock∨v'.ownBlock = some w.heap.size)→wpList P ops Q rest (a.put o.dst v') w'):wpList P ops Q (o :: rest) a w :=
 wpList_plain sM fun K hK=>qQ hE s x ho w base v n xs aR hs ad m c fs hx hl gp h1 hn mj du fun v' w' h1 h2 h3=>hK _ _ (h v' w' h1 h2 h3)
theorem D9 (W:World) (e:TypeId) (size N:Nat) (hN:W.heap.size = N):(W.alloc (.cells #[] e)).ownsRow N e size (.slice (some ⟨N,0,none⟩) 0 0) 0 []:=by
 subst hN;exact World.ownsRow_made W #[] 0 (Nat.le_refl _) (Nat.zero_le _) S'
theorem DI (W:World) (e:TypeId) (KV:List Value) (N:Nat) (hN:W.heap.size = N):∀q u,KV[q]? = some u→(W.alloc (.cells KV.toArray e)).cell? ((⟨N,0,none⟩:Addr).add q) = some u:=by
 subst hN;intro q u hu;rw [Addr.add_lit,Nat.zero_add,cell_of_row _ _ _ _ _ _ (heap_alloc_new W _)];simpa using hu
theorem wW {w:World} {B e size n:Nat} {v:Value} {xs:List Value} (h:w.ownsRow B e size v n xs) (hn:0 < n):∃g aL,v = .slice (some ⟨g,0,none⟩) n aL∧B≤g∧n≤aL∧g < w.heap.size:=by
 rcases h.2 with h | ⟨g,aL,b5,h1,h2,h3,h4,h5⟩
 ·omega
 ·refine ⟨g,aL,h1,h2,h4,?_⟩;exact JE
theorem IE {w:World} {B e size n g aL:Nat} {xs:List Value} (h:w.ownsRow B e size (.slice (some ⟨g,0,none⟩) n aL) n xs):B≤g∧g < w.heap.size∧n≤aL∧∀j u,xs[j]? = some u→w.cell? ⟨g,j,none⟩ = some u:=by
 rcases h.2 with ⟨h,_⟩ | ⟨g',cap',b5,h1,h2,h3,h4,h5⟩
 ·cases h
 ·simp only [Value.slice.injEq,Option.some.injEq,Addr.mk.injEq,and_true,true_and] at h1;obtain ⟨rfl,rfl⟩:=h1;refine ⟨h2,?_,h4,fun j u hu=>?_⟩
  ·exact JE
  ·rw [cell_of_row w g j b5 e (0,0) h3];have hj:=(List.getElem?_eq_some_iff.1 hu).1;rw [← h5.2.2,List.getElem?_take] at hu;split at hu
   ·simpa using hu
   ·cases hu
theorem PY {β:Type} {lt:β→β→Bool} {y:β} : ∀(s1 s2:List β),(∀x∈s1,lt y x = false)→(s2 = []∨∃x s',s2 = x :: s'∧lt y x = true)→OM lt y (s1++s2) = s1++y :: s2
 | [],s2,_,h2=>by
   rcases h2 with rfl | ⟨x,s',rfl,h⟩
   ·rfl
   ·simp only [List.nil_append];rw [OM,if_pos h]
 | x :: s1,s2,h1,h2=>by
   have h0:=h1 x (List.mem_cons_self ..);simp only [List.cons_append];rw [OM,if_neg (by rw [h0];simp),PY s1 s2 (fun z hz=>h1 z (List.mem_cons_of_mem _ hz)) h2]
end Go.Proofs.YtjahcnjmjahbaaaGreat
