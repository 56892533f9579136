/- SoftMark, of the program and of the reference. No condition. -/
import Derived.Test.YtkjeocdobidadaaGreatBoundU
import Derived.Test.YtkjeocdobidadaaGreatNeedOk
import Derived.Test.YtkjeocdobidadaaGreatLabelsOk
import Derived.Test.YtkjeocdobidadaaGreatTaintsOk
import Derived.Test.YtkjeocdobidadaaGreatRegionIx
namespace Go.Proofs.YtkjeocdobidadaaGreat
open Go.ChangeShapes Go.WideShapes Go.ChangeAt Go.RowKit
set_option linter.unusedVariables false
set_option linter.unusedSimpArgs false
set_option maxHeartbeats 4000000
set_option maxRecDepth 100000
def Rt (nm:ByteArray) (x:aU) (p:nI):Int :=
 if pK (iM nm) x.hosts < 0 then 0 else
 match x.hosts[(pK (iM nm) x.hosts).toNat]? with
 | none=>0
 | some h=>max 0 (100 - 25 * (BD p.tolerances 2 h.aT:Int))
theorem amY {nm:ByteArray} {x:aU} {p:nI} (h:pK (iM nm) x.hosts = -1):Rt nm x p = 0:=by unfold Rt;rw [h];rfl
theorem aje {nm:ByteArray} {x:aU} {p:nI} {k:Nat} (hk:k < x.hosts.length) (h:pK (iM nm) x.hosts = k):Rt nm x p = max 0 (100 - 25 * (BD p.tolerances 2 x.hosts[k].aT:Int)):=by
 unfold Rt;rw [h,if_neg O',Int.toNat_natCast,List.getElem?_eq_getElem hk]
theorem acy (n:Int) (w:World) (h:n≤100) (h0:-9223372036854775808≤n):Calls Tryz.prog 194 #[.int .i64 n,.int .i64 0,.int .i64 100] w fun e w'=>e = .returned (.int .i64 (max 0 n))∧w' = w:=by
 by_cases hn:n < 0
 ·rw [show max 0 n = 0 by omega];go_enter Tryz.func194,Tryz.ntmps194;go_wp2;go_ret
  exact ⟨rfl,rfl⟩
 ·rw [show max 0 n = n by omega];go_enter Tryz.func194,Tryz.ntmps194;go_wp2;go_ret
  exact ⟨rfl,rfl⟩
theorem ZI (x:aU) (p:nI) (cs ps:List Value) (F G:List Nat) (nm:ByteArray) (w:World) (h:rd w x cs F) (h':rd w p ps G) (hw:(x.wt:Int)≤1048576) (hw':(p.wt:Int)≤1048576) :
 Calls Tryz.prog 145 #[.agg cs.toArray,.string nm,.agg ps.toArray] w fun e w'=>e = .returned (.int .i64 (Rt nm x p))∧Below w.heap.size w w':=by
 have hwx:x.wt = kL Host.wt x.hosts+kL Placed.wt x.au:=rfl;have hwp:p.wt = p.name.size+kL Label.wt p.labels+kL Need.wt p.needs+kL bH.wt p.tolerances:=rfl;have hlen:(x.hosts.length:Int)≤1048576:=by have:=gJ Host.wt x.hosts;omega
 obtain ⟨htl,hts⟩:=FQ (xs:=p.tolerances) O';have Ux:=I' hts;clear hts;obtain ⟨bG,bD,fQ,dn,bW,jg,hck,hF,bQ,dM,hnext,aV,aP,aW⟩:=aO h;obtain ⟨bY,bZ,iq,eU,eX,jV,bg,bn,dK,jU,hG,jW,dA,kQ,lg,lG,iO,bK⟩:=dL h';subst hck jU;rcases yg (iM nm) x.hosts with hi | ⟨k,hk,hi⟩
 ·have HF:=I' (amY (p:=p) hi);have HI:=I' hi;clear hi;go_enter Tryz.func145,Tryz.ntmps145;go_wp2_with fail
  refine (gQ x _ _ nm _ (aJ h atS) hlen).mono ?_;rw [HI.out];rintro e w2 ⟨rfl,hb2⟩;exact Zaa1
 ·have HF:=I' (aje (p:=p) hk hi);have HI:=I' hi;clear hi;have hwk:(kL iU.wt x.hosts[k].aT:Int)≤1048576:=by
   have h1:=rM (f:=Host.wt) hk;have h2:Host.wt x.hosts[k] = x.hosts[k].name.size+kL Label.wt x.hosts[k].labels+kL iU.wt x.hosts[k].aT:=rfl;omega
  obtain ⟨hxl,hxs⟩:=BH hwk;have HXS:=I' hxs;clear hxs;have hul:=UN p.tolerances 2 x.hosts[k].aT;obtain ⟨b,o,ck,Fk,rfl,o9,hbs,hr,hsub,hc⟩:=Sl.get (α:=Host) (A:=bG) (c:=bD) bQ hk;obtain ⟨jM,jO,sN,jE,jF,sO,hck,su,zM,qY,Gt,Gw,xg,qA⟩:=iy hr;subst hck;have q0:w.cell? ⟨b,o+k * 6,none⟩ = some (.string x.hosts[k].name):=by exact hc 0 _ rfl
  have q1:w.cell? ⟨b,o+k * 6+1,none⟩ = some (.slice jM x.hosts[k].labels.length jO):=by rw [Nat.add_assoc];exact hc 1 _ rfl
  have q2:w.cell? ⟨b,o+k * 6+2,none⟩ = some (.int .i64 x.hosts[k].cpu):=by rw [Nat.add_assoc];exact hc 2 _ rfl
  have q3:w.cell? ⟨b,o+k * 6+3,none⟩ = some (.int .i64 x.hosts[k].mem):=by rw [Nat.add_assoc];exact hc 3 _ rfl
  have q4:w.cell? ⟨b,o+k * 6+4,none⟩ = some (.int .i64 x.hosts[k].slots):=by rw [Nat.add_assoc];exact hc 4 _ rfl
  have q5:w.cell? ⟨b,o+k * 6+5,none⟩ = some (.slice jE x.hosts[k].aT.length jF):=by rw [Nat.add_assoc];exact hc 5 _ rfl
  clear hc;go_enter Tryz.func145,Tryz.ntmps145;go_wp2_with fail
  refine (gQ x _ _ nm _ (aJ h atS) hlen).mono ?_;rw [HI.out];rintro e w2 ⟨rfl,hb2⟩;obtain ⟨hc2,hf2⟩:=ay hb2;have hz2:w.heap.size+1 < w2.heap.size:=sq hb2.size;have hy2:w.heap.size < w2.heap.size:=by omega
  have hB2:Below w.heap.size w w2:=atS;replace q5:=((ay hB2).1 b _ hbs).trans q5;have uO:b < w2.heap.size:=by omega
  have hUT:∀wq,Below w.heap.size w wq→Calls Tryz.prog 181 #[.slice bg p.tolerances.length bn,.slice jE x.hosts[k].aT.length jF,.int .i64 2] wq fun e w'=>e = .returned (.int .i64 (BD p.tolerances 2 x.hosts[k].aT))∧Below wq.heap.size wq w' :=
   fun wq hq=>UQ p.tolerances x.hosts[k].aT 2 _ _ _ _ _ _ _ _ _ (bK.ext hq) (qA.ext hq) rfl rfl htl hxl Ux.out HXS.out
  have HUT:=I' hUT;clear hUT;generalize BD p.tolerances 2 x.hosts[k].aT = z at HUT HF hul;have hzl:(z:Int)≤1048576:=by omega
  have hw1:IntKind.i64.wrap (25 * (z:Int)) = 25 * (z:Int):=IntWalk.i64_in _ O';have hw2:IntKind.i64.wrap (100 - 25 * (z:Int)) = 100 - 25 * (z:Int):=IntWalk.i64_in _ O';by_cases hpos:(100:Int) - 25 * (z:Int)≤0
  ·have hM:max 0 (100 - 25 * (z:Int)) = 0:=O';have HM:=I' hM;clear hM;go_wp2_with fail
   refine aF w2 U' U' (aj _) ?_
   repeat (first
    | (apply aG
       case hw=>rfl
       simp only [Act.put,pz])
    | (apply aH
       case hw=>rfl
       case h =>exact Zacj
       simp only [Act.put,pz]))
   refine aN ?_;intro wn hn;replace hn:=hn.out;go_wp2;go_ret
   exact ⟨by rw [HF.out,HM.out];rfl,ah hB2 hn⟩
  ·have hpos2:(0:Int) < 100 - 25 * (z:Int):=O';have hM:max 0 (100 - 25 * (z:Int)) = 100 - 25 * (z:Int):=O';have HM:=I' hM;clear hM;have hle:(100:Int) - 25 * (z:Int)≤100:=O';go_wp2_with fail
   refine aF w2 U' U' (aj _) ?_
   repeat (first
    | (apply aG
       case hw=>rfl
       simp only [Act.put,pz])
    | (apply aH
       case hw=>rfl
       case h =>exact Zacj
       simp only [Act.put,pz]))
   refine aN ?_;intro wn hn;replace hn:=hn.out;go_wp2;go_ret
   exact ⟨by rw [HF.out,HM.out] <;> first | rfl | (simp;omega),ah hB2 hn⟩
def aaK (labels:List Label) (x:Need):Bool:=uh x &&
 (if x.op = 1 then (Df x.key labels).2&&MF (Df x.key labels).1 x.values
  else if x.op = 2 then !(Df x.key labels).2 || !MF (Df x.key labels).1 x.values
  else if x.op = 3 then (Df x.key labels).2 else !(Df x.key labels).2)
theorem apu {labels:List Label} {x:Need} (h:uh x = false):aaK labels x = false:=by unfold aaK;rw [h];rfl
theorem aiV {x:Need} (h:uh x = true):x.op = 1∨x.op = 2∨x.op = 3∨x.op = 4:=by
 unfold uh at h;exact Zad1
theorem abZ (labels:List Label) (x:Need) (A:Option Addr) (n c:Nat) (F:List Nat) (cs:List Value) (G:List Nat) (w:World) (h:Sl w labels A c F) (hn:n = labels.length) (h':rd w x cs G) (hll:(labels.length:Int)≤1048576)
 (hks:(x.key.size:Int)≤1048576) (hl:(x.values.length:Int)≤1048576) (hsm:∀v∈x.values,(v.size:Int)≤1048576) :
 Calls Tryz.prog 205 #[.slice A n c,.agg cs.toArray] w fun e w'=>e = .returned (.bool (aaK labels x))∧Below w.heap.size w w':=by
 subst hn;have Eo:=I' hsm;clear hsm;have hr:=h';obtain ⟨jy,ji,Bo,hck,qp,hkey,hop,kV⟩:=og hr;subst hck;clear qp hr;cases hK:uh x with
 | false =>
   have HF:=I' (apu (labels:=labels) hK);have HK:=I' hK;clear hK;go_enter Tryz.func205,Tryz.ntmps205;go_wp2_with fail
   refine (Rx x _ _ _ (aJ h' atS) hks hl Eo.out).mono ?_;rw [HK.out];rintro e w2 ⟨rfl,hb2⟩;exact Zaa1
 | true =>
   have hops:=aiV hK
   have HU:=I' (show aaK labels x = (if x.op = 1 then (Df x.key labels).2&&MF (Df x.key labels).1 x.values
  else if x.op = 2 then !(Df x.key labels).2 || !MF (Df x.key labels).1 x.values
  else if x.op = 3 then (Df x.key labels).2 else !(Df x.key labels).2) by unfold aaK;rw [hK,Bool.true_and])
   have HK:=I' hK;clear hK;obtain ⟨v,t,hvt⟩:∃v t,Df x.key labels = (v,t):=⟨_,_,rfl⟩;have hu:=HU.out;rw [hvt] at hu;have HL:=I' hvt;clear HU hvt;go_enter Tryz.func205,Tryz.ntmps205;go_wp2_with fail
   refine (Rx x _ _ _ (aJ h' atS) hks hl Eo.out).mono ?_;rw [HK.out];rintro e w2 ⟨rfl,hb2⟩;obtain ⟨hc2,hf2⟩:=ay hb2;have hz2:w.heap.size < w2.heap.size:=(by have:=hb2.size;simp at this;omega);have hq0:w2.cell? ⟨w.heap.size,0,none⟩ = some (.string x.key):=(by rw [hc2 _ _ S',cell_of_row _ _ _ _ _ _ (heap_alloc_new w _)];rfl);have hq1:w2.cell? ⟨w.heap.size,1,none⟩ = some (.int .i64 x.op):=(by rw [hc2 _ _ S',cell_of_row _ _ _ _ _ _ (heap_alloc_new w _)];rfl);have hq2:w2.cell? ⟨w.heap.size,2,none⟩ = some (.slice jy x.values.length ji):=(by rw [hc2 _ _ S',cell_of_row _ _ _ _ _ _ (heap_alloc_new w _)];rfl);have hB2:Below w.heap.size w w2:=atS;clear hc2 hf2;go_wp2_with fail
   refine (akK labels x.key _ _ _ _ _ (h.ext hB2) rfl hll).mono ?_;rw [HL.out];rintro e w3 ⟨rfl,hb3⟩;replace hq1:=((ay hb3).1 _ _ hz2).trans hq1;replace hq2:=((ay hb3).1 _ _ hz2).trans hq2;have hz3:w.heap.size < w3.heap.size:=(by have:=hb3.size;omega);have hB3:=ah hB2 hb3;clear hq0;have HU:=I' hu;clear hu;rcases hops with hop | hop | hop | hop
   all_goals
    have hu:=HU.out;rw [hop] at hu hq1;simp only [Int.reduceEq,↓reduceIte] at hu;cases hh:MF v x.values <;> cases t
    all_goals
     have hu2:=hu;try rw [hh] at hu2
     have HU2:=I' hu2;have HH:=I' hh;clear hu2 hu hh hop;go_wp2_with (go_at_call 216;refine (aaG x.values v _ _ _ _ _ (kV.ext atS) rfl hl).mono ?_;rw [HH.out];rintro e w4 ⟨rfl,hb4⟩)
     go_ret
     exact ⟨by rw [HU2.out];rfl,atS⟩
def Hw (labels:List Label) (xs:List Need):Bool:=xs.all (aaK labels)
theorem acu {labels:List Label} {xs:List Need} {k:Nat} (hk:k < xs.length) (h:aaK labels xs[k] = false):Hw labels xs = false:=by
 unfold Hw;rw [List.all_eq_false];exact ⟨xs[k],List.getElem_mem ..,by simp [h]⟩
theorem amX {α:Type} {p:α→Bool} {xs:List α} {k:Nat} (hk:k < xs.length) (h:∀x∈xs.take k,p x = true) (hx:p xs[k] = true):∀x∈xs.take (k+1),p x = true:=by
 rw [List.take_succ_eq_append_getElem hk];intro x hm;rcases List.mem_append.1 hm with hm | hm
 ·exact h x hm
 ·simp only [List.mem_singleton] at hm;rw [hm];exact hx
theorem acv {labels:List Label} {xs:List Need} (h:∀x∈xs,aaK labels x = true):Hw labels xs = true:=by
 unfold Hw;rw [List.all_eq_true];exact h
theorem alb (xs:List Need) (labels:List Label) (A B:Option Addr) (n m c d:Nat) (F G:List Nat) (w:World) (h:Sl w xs A c F) (h':Sl w labels B d G) (hn:n = xs.length) (hm:m = labels.length) (hl:(xs.length:Int)≤1048576) (hll:(labels.length:Int)≤1048576)
 (hsm:(∀l∈xs,(l.key.size:Int)≤1048576∧(l.values.length:Int)≤1048576∧∀v∈l.values,(v.size:Int)≤1048576)) :
 Calls Tryz.prog 180 #[.slice A n c,.slice B m d] w fun e w'=>e = .returned (.bool (Hw labels xs))∧Below w.heap.size w w':=by
 subst hn hm;have Eo:=I' hsm;clear hsm;go_enter Tryz.func180,Tryz.ntmps180;go_wp2_with fail
 go_loopw [5] (fun i wr=>∃k:Nat,k≤xs.length∧i = .int .i64 k∧Hid (∀x∈xs.take k,aaK labels x = true)∧Below w.heap.size w wr) (fun i _=>xs.length - (intOf i).toNat)
 case atStart=>exact ⟨0,Nat.zero_le _,rfl,by show ∀_,_;simp,atS⟩
 case round =>
  obtain ⟨k,hk,rfl,HN,hbl⟩:=hrel;by_cases hlt:k < xs.length
  ·obtain ⟨b,o,ck,Fk,rfl,o9,hbs,hr,hsub,hc⟩:=(Sl.ext (w':=wr) (A:=A) (c:=c) h hbl).get hlt;obtain ⟨jy,ji,Bo,hck,su,hkey,hop,kV⟩:=og hr;subst hck;have q0:wr.cell? ⟨b,o+k * 3,none⟩ = some (.string xs[k].key):=(by exact hc 0 _ rfl);have q1:wr.cell? ⟨b,o+k * 3+1,none⟩ = some (.int .i64 xs[k].op):=(by rw [Nat.add_assoc];exact hc 1 _ rfl);have q2:wr.cell? ⟨b,o+k * 3+2,none⟩ = some (.slice jy xs[k].values.length ji):=(by rw [Nat.add_assoc];exact hc 2 _ rfl);clear hc;obtain ⟨hs1,hs2,hs3⟩:=Eo.out xs[k] (List.getElem_mem ..);cases hp:aaK labels xs[k] with
   | true =>
     have Gn:=I' (amX hlt HN.out hp);have HP:=I' hp;clear hp;go_wp2_with fail
     refine (abZ labels xs[k] _ _ _ _ _ _ _ (h'.ext atS) rfl (aJ hr atS) hll hs1 hs2 hs3).mono ?_;rw [HP.out];rintro e wn ⟨rfl,hn⟩;exact Zad4
   | false =>
     have HF:=I' (acu hlt hp);have HP:=I' hp;clear hp;go_wp2_with fail
     refine (abZ labels xs[k] _ _ _ _ _ _ _ (h'.ext atS) rfl (aJ hr atS) hll hs1 hs2 hs3).mono ?_;rw [HP.out];rintro e wn ⟨rfl,hn⟩;exact Zaa1
  ·have hkl:k = xs.length:=O';subst hkl;have hn:=HN.out;rw [List.take_length] at hn;have HF:=I' (acv hn);clear hn;exact Zaa1
def Aj (x:Host):Bool:=Qs x.name&&sD x.labels&&La x.aT&&(decide (0≤x.cpu)&&decide (0≤x.mem))&&(decide (1≤x.slots)&&decide (x.slots≤20))
theorem tY (x:Host) (cs:List Value) (F:List Nat) (w:World) (h:rd w x cs F) (hw:(x.wt:Int)≤1048576) :
 Calls Tryz.prog 63 #[.agg cs.toArray] w fun e w'=>e = .returned (.bool (Aj x))∧Below w.heap.size w w':=by
 have hwx:x.wt = x.name.size+kL Label.wt x.labels+kL iU.wt x.aT:=rfl;obtain ⟨hll,hls⟩:=sW (xs:=x.labels) O';obtain ⟨htl,hts⟩:=BH (xs:=x.aT) O';have hns:(x.name.size:Int)≤1048576:=by omega
 have Zb:=I' hls;have Ux:=I' hts;clear hls hts;have hr:=h;obtain ⟨gu,gy,jw,kJ,kK,qU,hck,hF,hname,dO,vg,hmem,uI,jq⟩:=iy hr;subst hck;clear hr hF;go_enter Tryz.func63,Tryz.ntmps63
 go_wp2_with (first
  | (go_at_call 108;refine (Ro x.name _ hns).mono ?_;rintro e w2 ⟨rfl,hb2⟩;obtain ⟨hc2,hf2⟩:=ay hb2;have hz2:w.heap.size < w2.heap.size:=(sq hb2.size))
  | (go_at_call 109;refine (Jv x.labels _ _ _ _ _ (dO.ext atS) rfl hll Zb.out).mono ?_;rintro e w3 ⟨rfl,hb3⟩;obtain ⟨hc3,hf3⟩:=ay hb3;have hz3:w.heap.size < w3.heap.size:=(sq hb3.size))
  | (go_at_call 110;refine (ZK x.aT _ _ _ _ _ (jq.ext atS) rfl htl Ux.out).mono ?_;rintro e w4 ⟨rfl,hb4⟩;obtain ⟨hc4,hf4⟩:=ay hb4;have Wy:w.heap.size < w4.heap.size:=(sq hb4.size))
  | go_in)
 all_goals first
  | (go_ret;refine ⟨?_,atS⟩;refine congrArg (fun b=>Ending.returned (Value.bool b)) ?_;show (_:Bool) = _;(try clear hc2 hf2);(try clear hc3 hf3);(try clear hc4 hf4);unfold Aj;first | (simp [*];done) | (simp [*];omega) | (simp_all;done) | (simp_all;omega))
  | skip
theorem tZ (x:Host) (cs:List Value) (F:List Nat) (w:World) (h:rd w x cs F) (hw:(x.wt:Int)≤1048576) :
 Calls Tryz.prog 85 #[.agg cs.toArray] w fun e w'=>e = .returned (.bool (Aj x))∧Below w.heap.size w w':=by
 have hwx:x.wt = x.name.size+kL Label.wt x.labels+kL iU.wt x.aT:=rfl;obtain ⟨hll,hls⟩:=sW (xs:=x.labels) O';obtain ⟨htl,hts⟩:=BH (xs:=x.aT) O';have hns:(x.name.size:Int)≤1048576:=by omega
 have Zb:=I' hls;have Ux:=I' hts;clear hls hts;have hr:=h;obtain ⟨gu,gy,jw,kJ,kK,qU,hck,hF,hname,dO,vg,hmem,uI,jq⟩:=iy hr;subst hck;clear hr hF;go_enter Tryz.func85,Tryz.ntmps85
 go_wp2_with (first
  | (go_at_call 129;refine (Rq x.name _ hns).mono ?_;rintro e w2 ⟨rfl,hb2⟩;obtain ⟨hc2,hf2⟩:=ay hb2;have hz2:w.heap.size < w2.heap.size:=(sq hb2.size))
  | (go_at_call 123;refine (Jw x.labels _ _ _ _ _ (dO.ext atS) rfl hll Zb.out).mono ?_;rintro e w3 ⟨rfl,hb3⟩;obtain ⟨hc3,hf3⟩:=ay hb3;have hz3:w.heap.size < w3.heap.size:=(sq hb3.size))
  | (go_at_call 136;refine (ZL x.aT _ _ _ _ _ (jq.ext atS) rfl htl Ux.out).mono ?_;rintro e w4 ⟨rfl,hb4⟩;obtain ⟨hc4,hf4⟩:=ay hb4;have Wy:w.heap.size < w4.heap.size:=(sq hb4.size))
  | go_in)
 all_goals first
  | (go_ret;refine ⟨?_,atS⟩;refine congrArg (fun b=>Ending.returned (Value.bool b)) ?_;show (_:Bool) = _;(try clear hc2 hf2);(try clear hc3 hf3);(try clear hc4 hf4);unfold Aj;first | (simp [*];done) | (simp [*];omega) | (simp_all;done) | (simp_all;omega))
  | skip
def uH (nm:ByteArray) (x:aU) (p:nI):Int :=
 if zL x.weights.pack x.weights.spread x.weights.soft = true then x.weights.pack * OT nm x p+x.weights.spread * EF nm x+x.weights.soft * Rt nm x p else 0
theorem adN (nm:ByteArray) (x:aU) (p:nI):0≤Rt nm x p∧Rt nm x p≤100:=by
 unfold Rt;split
 ·omega
 ·split <;> omega
theorem PX {a b:Int} (ha:0≤a∧a≤10) (hb:0≤b∧b≤100):0≤a * b∧a * b≤1000:=by
 refine ⟨Int.mul_nonneg ha.1 hb.1,?_⟩;have h1:a * b≤10 * b:=Int.mul_le_mul_of_nonneg_right ha.2 hb.1;omega
theorem XO {p s f:Int} (h:zL p s f = true):(0≤p∧p≤10)∧(0≤s∧s≤10)∧(0≤f∧f≤10):=by
 unfold zL at h;exact Zad1
theorem vY {n:Int} (h:0≤n∧n≤3000):Value.int .i64 (IntKind.i64.wrap n) = Value.int .i64 n:=by
 have e:IntKind.i64.wrap n = n:=by rw [IntKind.wrap_i64];omega
 rw [e]
theorem Kq (x:aU) (p:nI) (cs ps:List Value) (F G:List Nat) (nm:ByteArray) (w:World) (h:rd w x cs F) (h':rd w p ps G) (hw:(x.wt:Int)≤1048576) (hw':(p.wt:Int)≤1048576) :
 Calls Tryz.prog 99 #[.agg cs.toArray,.string nm,.agg ps.toArray] w fun e w'=>e = .returned (.int .i64 (uH nm x p))∧Below w.heap.size w w':=by
 have ZN:=I' hw;have Uc:=I' hw';clear hw hw';have hr:=h;have hr':=h';obtain ⟨bG,bD,fQ,dn,bW,jg,hck,hF,bQ,dM,hnext,aV,aP,aW⟩:=aO hr;obtain ⟨bY,bZ,iq,eU,eX,jV,bg,bn,dK,jU,hG,jW,dA,kQ,lg,lG,iO,bK⟩:=dL hr';subst hck jU;clear hF hG hr hr';cases hR:zL x.weights.pack x.weights.spread x.weights.soft with
 | false =>
   have HF:=I' (show uH nm x p = 0 by unfold uH;rw [if_neg (by rw [hR];simp)]);have HR:=I' hR;clear hR;go_enter Tryz.func99,Tryz.ntmps99;go_wp2_with fail
   refine (pW _ _ _ _).mono ?_;rw [HR.out];rintro e w2 ⟨rfl,hb2⟩;exact Zaa1
 | true =>
   have hmk:uH nm x p = x.weights.pack * OT nm x p+x.weights.spread * EF nm x+x.weights.soft * Rt nm x p:=(by unfold uH;rw [if_pos hR]);obtain ⟨g1,g2,g3⟩:=XO hR;have HR:=I' hR;clear hR;obtain ⟨S1,hS1⟩:∃S,OT nm x p = S:=⟨_,rfl⟩;obtain ⟨S2,hS2⟩:∃S,EF nm x = S:=⟨_,rfl⟩;obtain ⟨S3,hS3⟩:∃S,Rt nm x p = S:=⟨_,rfl⟩;have r1:=adO nm x p;have r2:=ZO nm x;have r3:=adN nm x p;rw [hS1] at r1 hmk;rw [hS2] at r2 hmk;rw [hS3] at r3 hmk;have m1:=PX g1 r1;have m2:=PX g2 r2;have m3:=PX g3 r3;have e1:=vY (n:=x.weights.pack * S1) O';have e2:=vY (n:=x.weights.spread * S2) O';have e3:=vY (n:=x.weights.soft * S3) O';have e4:=vY (n:=x.weights.pack * S1+x.weights.spread * S2) O';have e5:=vY (n:=x.weights.pack * S1+x.weights.spread * S2+x.weights.soft * S3) O';have HF:=I' hmk;have H1:=I' hS1;have H2:=I' hS2;have H3:=I' hS3;clear hmk hS1 hS2 hS3 m1 m2 m3;go_enter Tryz.func99,Tryz.ntmps99;go_wp2_with fail
   refine (pW _ _ _ _).mono ?_;rw [HR.out];rintro e w2 ⟨rfl,hb2⟩;obtain ⟨hc2,hf2⟩:=ay hb2;have hz2:w.heap.size < w2.heap.size:=(sq hb2.size);have hy2:w.heap.size+1 < w2.heap.size:=(sq hb2.size);try (have hx2:w.heap.size+1+1 < w2.heap.size:=sq hb2.size)
   go_wp2_with fail
   refine aF _ U' U' (aj _) ?_
   repeat (first
    | (apply aG
       case hw=>rfl
       simp only [Act.put,pz])
    | (apply aH
       case hw=>rfl
       case h =>
        intro wq hq;have hcq:=(aB hq).1;have lJ:=(aB hq).2;go_simp
        first
         | exact ⟨hq,rfl⟩
         | exact ⟨aQ hq _,rfl⟩
         | (first | (refine (Zz x p _ _ _ _ nm _ (aJ h (ah atS hq)) (aJ h' (ah atS hq)) ZN.out Uc.out).mono ?_;rw [H1.out];rintro e wz ⟨rfl,nV⟩;exact ⟨rfl,aI hq nV⟩) | (refine (aey x p _ _ _ _ nm _ (aJ h (ah atS hq)) (aJ h' (ah atS hq)) ZN.out Uc.out).mono ?_;rw [H2.out];rintro e wz ⟨rfl,nV⟩;exact ⟨rfl,aI hq nV⟩) | (refine (ZI x p _ _ _ _ nm _ (aJ h (ah atS hq)) (aJ h' (ah atS hq)) ZN.out Uc.out).mono ?_;rw [H3.out];rintro e wz ⟨rfl,nV⟩;exact ⟨rfl,aI hq nV⟩))
         | (simp only [↓IntWalk.iteOmega];exact ⟨hq,rfl⟩)
       simp only [Act.put,pz]))
   refine aN ?_;intro wn hn;replace hn:=hn.out;exact Zab8
end Go.Proofs.YtkjeocdobidadaaGreat
