/- SoftMark, of the program and of the reference. No condition. -/
import Derived.Test.YtogkjlcoadhpgaaGreatUntolI
import Derived.Test.YtogkjlcoadhpgaaGreatShare
import Derived.Test.YtogkjlcoadhpgaaGreatNeedOk
namespace Go.Proofs.YtogkjlcoadhpgaaGreat
open Go.ChangeShapes Go.WideShapes Go.ChangeAt Go.RowKit
set_option linter.unusedVariables false
set_option linter.unusedSimpArgs false
def Rt (nm:ByteArray) (x:aU) (p:nI):Int :=
 if pK (iM nm) x.hosts < 0 then 0 else
 match x.hosts[(pK (iM nm) x.hosts).toNat]? with
 | none=>0
 | some h=>max 0 (100 - 25 * (BD p.tolerances 2 h.aT:Int))
theorem amY {nm:ByteArray} {x:aU} {p:nI} (h:pK (iM nm) x.hosts = -1):Rt nm x p = 0:=by unfold Rt;rw [h];rfl
theorem aje {nm:ByteArray} {x:aU} {p:nI} {k:Nat} (hk:k < x.hosts.length) (h:pK (iM nm) x.hosts = k):Rt nm x p = max 0 (100 - 25 * (BD p.tolerances 2 x.hosts[k].aT:Int)):=by
 unfold Rt
 rw [h,if_neg (by omega),Int.toNat_natCast,List.getElem?_eq_getElem hk]
set_option maxRecDepth 100000 in
set_option maxHeartbeats 1000000 in
theorem ZJ (x:aU) (p:nI) (cs ps:List Value) (F G:List Nat) (nm:ByteArray) (w:World) (h:rd w x cs F) (h':rd w p ps G) (hw:(x.wt:Int)≤1048576) (hw':(p.wt:Int)≤1048576) :
 Calls Tryz.prog 171 #[.agg cs.toArray,.string nm,.agg ps.toArray] w fun e w'=>e = .returned (.int .i64 (Rt nm x p))∧Below w.heap.size w w':=by
 have hwx:x.wt = kL Host.wt x.hosts+kL Placed.wt x.au:=rfl
 have hwp:p.wt = p.name.size+kL Label.wt p.labels+kL Need.wt p.needs+kL bH.wt p.tolerances:=rfl
 have hlen:(x.hosts.length:Int)≤1048576:=by have:=gJ Host.wt x.hosts;omega
 obtain ⟨htl,hts⟩:=FQ (xs:=p.tolerances) (by omega)
 have Ux:=Lib.hid hts
 clear hts
 obtain ⟨bG,bD,fQ,dn,bW,jg,hck,hF,bQ,dM,hnext,aV,aP,aW⟩:=aO h
 obtain ⟨bY,bZ,iq,eU,eX,jV,bg,bn,dK,jU,hG,jW,dA,kQ,lg,lG,iO,bK⟩:=dL h'
 subst hck jU
 rcases yg (iM nm) x.hosts with hi | ⟨k,hk,hi⟩
 ·have HF:=Lib.hid (amY (p:=p) hi)
  have HI:=Lib.hid hi
  clear hi
  go_enter Tryz.func171,Tryz.ntmps171
  go_wp2_with fail
  refine (gK x _ _ nm _ (aJ h atS) hlen).mono ?_
  rw [HI.out]
  rintro e w2 ⟨rfl,hb2⟩
  exact Zaau
 ·have HF:=Lib.hid (aje (p:=p) hk hi)
  have HI:=Lib.hid hi
  clear hi
  have hwk:(kL iU.wt x.hosts[k].aT:Int)≤1048576:=by
   exact Zad2
  obtain ⟨hxl,hxs⟩:=BH hwk
  have HXS:=Lib.hid hxs
  clear hxs
  have hul:=UN p.tolerances 2 x.hosts[k].aT
  obtain ⟨b,o,ck,Fk,rfl,o9,hbs,hr,hsub,hc⟩:=Sl.get (α:=Host) (A:=bG) (c:=bD) bQ hk
  obtain ⟨jM,jO,sN,jE,jF,sO,hck,su,zM,qY,Gt,Gw,xg,qA⟩:=iy hr
  subst hck
  have q0:w.cell? ⟨b,o+k * 6,none⟩ = some (.string x.hosts[k].name):=by exact hc 0 _ rfl
  have q1:w.cell? ⟨b,o+k * 6+1,none⟩ = some (.slice jM x.hosts[k].labels.length jO):=by rw [Nat.add_assoc];exact hc 1 _ rfl
  have q2:w.cell? ⟨b,o+k * 6+2,none⟩ = some (.int .i64 x.hosts[k].cpu):=by rw [Nat.add_assoc];exact hc 2 _ rfl
  have q3:w.cell? ⟨b,o+k * 6+3,none⟩ = some (.int .i64 x.hosts[k].mem):=by rw [Nat.add_assoc];exact hc 3 _ rfl
  have q4:w.cell? ⟨b,o+k * 6+4,none⟩ = some (.int .i64 x.hosts[k].slots):=by rw [Nat.add_assoc];exact hc 4 _ rfl
  have q5:w.cell? ⟨b,o+k * 6+5,none⟩ = some (.slice jE x.hosts[k].aT.length jF):=by rw [Nat.add_assoc];exact hc 5 _ rfl
  clear hc
  go_enter Tryz.func171,Tryz.ntmps171
  go_wp2_with fail
  refine (gK x _ _ nm _ (aJ h atS) hlen).mono ?_
  rw [HI.out]
  rintro e w2 ⟨rfl,hb2⟩
  obtain ⟨hc2,hf2⟩:=ay hb2
  have hz2:w.heap.size+1 < w2.heap.size:=sq hb2.size
  have hy2:w.heap.size < w2.heap.size:=by omega
  have hB2:Below w.heap.size w w2:=atS
  replace q5:=((ay hB2).1 b _ hbs).trans q5
  have uO:b < w2.heap.size:=by omega
  have hUT:∀wq,Below w.heap.size w wq→Calls Tryz.prog 192 #[.slice bg p.tolerances.length bn,.slice jE x.hosts[k].aT.length jF,.int .i64 2] wq fun e w'=>e = .returned (.int .i64 (BD p.tolerances 2 x.hosts[k].aT))∧Below wq.heap.size wq w' :=
   fun wq hq=>UO p.tolerances x.hosts[k].aT 2 _ _ _ _ _ _ _ _ _ (bK.ext hq) (qA.ext hq) rfl rfl htl hxl Ux.out HXS.out
  have HUT:=Lib.hid hUT
  clear hUT
  generalize BD p.tolerances 2 x.hosts[k].aT = z at HUT HF hul
  have hzl:(z:Int)≤1048576:=by omega
  have hw1:IntKind.i64.wrap (25 * (z:Int)) = 25 * (z:Int):=IntWalk.i64_in _ (by omega)
  have hw2:IntKind.i64.wrap (100 - 25 * (z:Int)) = 100 - 25 * (z:Int):=IntWalk.i64_in _ (by omega)
  by_cases hpos:(100:Int) - 25 * (z:Int)≤0
  ·have hM:max 0 (100 - 25 * (z:Int)) = 0:=by omega
   have HM:=Lib.hid hM
   clear hM
   go_wp2_with fail
   refine aF w2 (by kernel_rfl) (by kernel_rfl) (aj _) ?_
   repeat (first
    | (apply aG
       case hw=>rfl
       simp only [Act.put,pz])
    | (apply aH
       case hw=>rfl
       case h =>
        exact Zacg
       simp only [Act.put,pz]))
   refine aN ?_
   intro wn hn
   replace hn:=hn.out
   go_wp2
   go_ret
   exact ⟨by rw [HF.out,HM.out];rfl,ah hB2 hn⟩
  ·have hpos2:(0:Int) < 100 - 25 * (z:Int):=by omega
   have hM:max 0 (100 - 25 * (z:Int)) = 100 - 25 * (z:Int):=by omega
   have HM:=Lib.hid hM
   clear hM
   have hle:(100:Int) - 25 * (z:Int)≤100:=by omega
   go_wp2_with fail
   refine aF w2 (by kernel_rfl) (by kernel_rfl) (aj _) ?_
   repeat (first
    | (apply aG
       case hw=>rfl
       simp only [Act.put,pz])
    | (apply aH
       case hw=>rfl
       case h =>
        exact Zacg
       simp only [Act.put,pz]))
   exact Zad1
theorem acy (n:Int) (w:World) (h:n≤100) (h0:-9223372036854775808≤n):Calls Tryz.prog 178 #[.int .i64 n,.int .i64 0,.int .i64 100] w fun e w'=>e = .returned (.int .i64 (max 0 n))∧w' = w:=by
 by_cases hn:n < 0
 ·rw [show max 0 n = 0 by omega]
  go_enter Tryz.func178,Tryz.ntmps178
  go_wp2
  go_ret
  exact ⟨rfl,rfl⟩
 ·rw [show max 0 n = n by omega]
  go_enter Tryz.func178,Tryz.ntmps178
  go_wp2
  go_ret
  exact ⟨rfl,rfl⟩
set_option maxRecDepth 100000 in
set_option maxHeartbeats 1000000 in
theorem ZI (x:aU) (p:nI) (cs ps:List Value) (F G:List Nat) (nm:ByteArray) (w:World) (h:rd w x cs F) (h':rd w p ps G) (hw:(x.wt:Int)≤1048576) (hw':(p.wt:Int)≤1048576) :
 Calls Tryz.prog 158 #[.agg cs.toArray,.string nm,.agg ps.toArray] w fun e w'=>e = .returned (.int .i64 (Rt nm x p))∧Below w.heap.size w w':=by
 have hwx:x.wt = kL Host.wt x.hosts+kL Placed.wt x.au:=rfl
 have hwp:p.wt = p.name.size+kL Label.wt p.labels+kL Need.wt p.needs+kL bH.wt p.tolerances:=rfl
 have hlen:(x.hosts.length:Int)≤1048576:=by have:=gJ Host.wt x.hosts;omega
 obtain ⟨htl,hts⟩:=FQ (xs:=p.tolerances) (by omega)
 have Ux:=Lib.hid hts
 clear hts
 obtain ⟨bG,bD,fQ,dn,bW,jg,hck,hF,bQ,dM,hnext,aV,aP,aW⟩:=aO h
 obtain ⟨bY,bZ,iq,eU,eX,jV,bg,bn,dK,jU,hG,jW,dA,kQ,lg,lG,iO,bK⟩:=dL h'
 subst hck jU
 rcases yg (iM nm) x.hosts with hi | ⟨k,hk,hi⟩
 ·have HF:=Lib.hid (amY (p:=p) hi)
  have HI:=Lib.hid hi
  clear hi
  go_enter Tryz.func158,Tryz.ntmps158
  go_wp2_with fail
  refine (gQ x _ _ nm _ (aJ h atS) hlen).mono ?_
  rw [HI.out]
  rintro e w2 ⟨rfl,hb2⟩
  exact Zaau
 ·have HF:=Lib.hid (aje (p:=p) hk hi)
  have HI:=Lib.hid hi
  clear hi
  have hwk:(kL iU.wt x.hosts[k].aT:Int)≤1048576:=by
   exact Zad2
  obtain ⟨hxl,hxs⟩:=BH hwk
  have HXS:=Lib.hid hxs
  clear hxs
  have hul:=UN p.tolerances 2 x.hosts[k].aT
  obtain ⟨b,o,ck,Fk,rfl,o9,hbs,hr,hsub,hc⟩:=Sl.get (α:=Host) (A:=bG) (c:=bD) bQ hk
  obtain ⟨jM,jO,sN,jE,jF,sO,hck,su,zM,qY,Gt,Gw,xg,qA⟩:=iy hr
  subst hck
  have q0:w.cell? ⟨b,o+k * 6,none⟩ = some (.string x.hosts[k].name):=by exact hc 0 _ rfl
  have q1:w.cell? ⟨b,o+k * 6+1,none⟩ = some (.slice jM x.hosts[k].labels.length jO):=by rw [Nat.add_assoc];exact hc 1 _ rfl
  have q2:w.cell? ⟨b,o+k * 6+2,none⟩ = some (.int .i64 x.hosts[k].cpu):=by rw [Nat.add_assoc];exact hc 2 _ rfl
  have q3:w.cell? ⟨b,o+k * 6+3,none⟩ = some (.int .i64 x.hosts[k].mem):=by rw [Nat.add_assoc];exact hc 3 _ rfl
  have q4:w.cell? ⟨b,o+k * 6+4,none⟩ = some (.int .i64 x.hosts[k].slots):=by rw [Nat.add_assoc];exact hc 4 _ rfl
  have q5:w.cell? ⟨b,o+k * 6+5,none⟩ = some (.slice jE x.hosts[k].aT.length jF):=by rw [Nat.add_assoc];exact hc 5 _ rfl
  clear hc
  go_enter Tryz.func158,Tryz.ntmps158
  go_wp2_with fail
  refine (gQ x _ _ nm _ (aJ h atS) hlen).mono ?_
  rw [HI.out]
  rintro e w2 ⟨rfl,hb2⟩
  obtain ⟨hc2,hf2⟩:=ay hb2
  have hz2:w.heap.size+1 < w2.heap.size:=sq hb2.size
  have hy2:w.heap.size < w2.heap.size:=by omega
  have hB2:Below w.heap.size w w2:=atS
  replace q5:=((ay hB2).1 b _ hbs).trans q5
  have uO:b < w2.heap.size:=by omega
  have hUT:∀wq,Below w.heap.size w wq→Calls Tryz.prog 179 #[.slice bg p.tolerances.length bn,.slice jE x.hosts[k].aT.length jF,.int .i64 2] wq fun e w'=>e = .returned (.int .i64 (BD p.tolerances 2 x.hosts[k].aT))∧Below wq.heap.size wq w' :=
   fun wq hq=>UQ p.tolerances x.hosts[k].aT 2 _ _ _ _ _ _ _ _ _ (bK.ext hq) (qA.ext hq) rfl rfl htl hxl Ux.out HXS.out
  have HUT:=Lib.hid hUT
  clear hUT
  generalize BD p.tolerances 2 x.hosts[k].aT = z at HUT HF hul
  have hzl:(z:Int)≤1048576:=by omega
  have hw1:IntKind.i64.wrap (25 * (z:Int)) = 25 * (z:Int):=IntWalk.i64_in _ (by omega)
  have hw2:IntKind.i64.wrap (100 - 25 * (z:Int)) = 100 - 25 * (z:Int):=IntWalk.i64_in _ (by omega)
  by_cases hpos:(100:Int) - 25 * (z:Int)≤0
  ·have hM:max 0 (100 - 25 * (z:Int)) = 0:=by omega
   have HM:=Lib.hid hM
   clear hM
   go_wp2_with fail
   refine aF w2 (by kernel_rfl) (by kernel_rfl) (aj _) ?_
   repeat (first
    | (apply aG
       case hw=>rfl
       simp only [Act.put,pz])
    | (apply aH
       case hw=>rfl
       case h =>
        exact Zab1
       simp only [Act.put,pz]))
   refine aN ?_
   intro wn hn
   replace hn:=hn.out
   go_wp2
   go_ret
   exact ⟨by rw [HF.out,HM.out];rfl,ah hB2 hn⟩
  ·have hpos2:(0:Int) < 100 - 25 * (z:Int):=by omega
   have hM:max 0 (100 - 25 * (z:Int)) = 100 - 25 * (z:Int):=by omega
   have HM:=Lib.hid hM
   clear hM
   have hle:(100:Int) - 25 * (z:Int)≤100:=by omega
   go_wp2_with fail
   refine aF w2 (by kernel_rfl) (by kernel_rfl) (aj _) ?_
   repeat (first
    | (apply aG
       case hw=>rfl
       simp only [Act.put,pz])
    | (apply aH
       case hw=>rfl
       case h =>
        exact Zab1
       simp only [Act.put,pz]))
   exact Zad1
end Go.Proofs.YtogkjlcoadhpgaaGreat
namespace Go.Proofs.YtogkjlcoadhpgaaGreat
open Go.ChangeShapes Go.WideShapes Go.ChangeAt Go.RowKit
set_option linter.unusedVariables false
set_option linter.unusedSimpArgs false
def aaK (labels:List Label) (x:Need):Bool:=uh x &&
 (if x.op = 1 then (Df x.key labels).2&&MF (Df x.key labels).1 x.values
  else if x.op = 2 then !(Df x.key labels).2 || !MF (Df x.key labels).1 x.values
  else if x.op = 3 then (Df x.key labels).2 else !(Df x.key labels).2)
theorem apu {labels:List Label} {x:Need} (h:uh x = false):aaK labels x = false:=by unfold aaK;rw [h];rfl
theorem aiV {x:Need} (h:uh x = true):x.op = 1∨x.op = 2∨x.op = 3∨x.op = 4:=by
 unfold uh at h
 simp only [Bool.and_eq_true,decide_eq_true_eq] at h
 omega
set_option maxRecDepth 100000 in
set_option maxHeartbeats 2000000 in
theorem abY (labels:List Label) (x:Need) (A:Option Addr) (n c:Nat) (F:List Nat) (cs:List Value) (G:List Nat) (w:World) (h:Sl w labels A c F) (hn:n = labels.length) (h':rd w x cs G) (hll:(labels.length:Int)≤1048576)
 (hks:(x.key.size:Int)≤1048576) (hl:(x.values.length:Int)≤1048576) (hsm:∀v∈x.values,(v.size:Int)≤1048576) :
 Calls Tryz.prog 208 #[.slice A n c,.agg cs.toArray] w fun e w'=>e = .returned (.bool (aaK labels x))∧Below w.heap.size w w':=by
 subst hn
 have Eo:=Lib.hid hsm
 clear hsm
 have hr:=h'
 obtain ⟨jy,ji,Bo,hck,qp,hkey,hop,kV⟩:=og hr
 subst hck
 clear qp hr
 cases hK:uh x with
 | false =>
   have HF:=Lib.hid (apu (labels:=labels) hK)
   have HK:=Lib.hid hK
   clear hK
   go_enter Tryz.func208,Tryz.ntmps208
   go_wp2_with fail
   refine (Rw x _ _ _ (aJ h' atS) hks hl Eo.out).mono ?_
   rw [HK.out]
   rintro e w2 ⟨rfl,hb2⟩
   exact Zaau
 | true =>
   have hops:=aiV hK
   have HU:=Lib.hid (show aaK labels x = (if x.op = 1 then (Df x.key labels).2&&MF (Df x.key labels).1 x.values
  else if x.op = 2 then !(Df x.key labels).2 || !MF (Df x.key labels).1 x.values
  else if x.op = 3 then (Df x.key labels).2 else !(Df x.key labels).2) by unfold aaK;rw [hK,Bool.true_and])
   have HK:=Lib.hid hK
   clear hK
   obtain ⟨v,t,hvt⟩:∃v t,Df x.key labels = (v,t):=⟨_,_,rfl⟩
   have hu:=HU.out
   rw [hvt] at hu
   have HL:=Lib.hid hvt
   clear HU hvt
   go_enter Tryz.func208,Tryz.ntmps208
   go_wp2_with fail
   refine (Rw x _ _ _ (aJ h' atS) hks hl Eo.out).mono ?_
   rw [HK.out]
   rintro e w2 ⟨rfl,hb2⟩
   obtain ⟨hc2,hf2⟩:=ay hb2
   have hz2:w.heap.size < w2.heap.size:=by have:=hb2.size;simp at this;omega
   have hq0:w2.cell? ⟨w.heap.size,0,none⟩ = some (.string x.key):=by rw [hc2 _ _ (by simp),cell_of_row _ _ _ _ _ _ (heap_alloc_new w _)];rfl
   have hq1:w2.cell? ⟨w.heap.size,1,none⟩ = some (.int .i64 x.op):=by rw [hc2 _ _ (by simp),cell_of_row _ _ _ _ _ _ (heap_alloc_new w _)];rfl
   have hq2:w2.cell? ⟨w.heap.size,2,none⟩ = some (.slice jy x.values.length ji):=by rw [hc2 _ _ (by simp),cell_of_row _ _ _ _ _ _ (heap_alloc_new w _)];rfl
   have hB2:Below w.heap.size w w2:=atS
   clear hc2 hf2
   go_wp2_with fail
   refine (akJ labels x.key _ _ _ _ _ (h.ext hB2) rfl hll).mono ?_
   rw [HL.out]
   rintro e w3 ⟨rfl,hb3⟩
   replace hq1:=((ay hb3).1 _ _ hz2).trans hq1
   replace hq2:=((ay hb3).1 _ _ hz2).trans hq2
   have hz3:w.heap.size < w3.heap.size:=by have:=hb3.size;omega
   have hB3:=ah hB2 hb3
   clear hq0
   have HU:=Lib.hid hu
   clear hu
   rcases hops with hop | hop | hop | hop
   all_goals
    have hu:=HU.out
    rw [hop] at hu hq1
    simp only [Int.reduceEq,↓reduceIte] at hu
    cases hh:MF v x.values <;> cases t
    all_goals
     have hu2:=hu
     try rw [hh] at hu2
     have HU2:=Lib.hid hu2
     have HH:=Lib.hid hh
     clear hu2 hu hh hop
     go_wp2_with (go_at_call 215;refine (VG x.values v _ _ _ _ _ (kV.ext atS) rfl hl).mono ?_;rw [HH.out];rintro e w4 ⟨rfl,hb4⟩)
     go_ret
     exact ⟨by rw [HU2.out];rfl,atS⟩
set_option maxRecDepth 100000 in
set_option maxHeartbeats 2000000 in
theorem abZ (labels:List Label) (x:Need) (A:Option Addr) (n c:Nat) (F:List Nat) (cs:List Value) (G:List Nat) (w:World) (h:Sl w labels A c F) (hn:n = labels.length) (h':rd w x cs G) (hll:(labels.length:Int)≤1048576)
 (hks:(x.key.size:Int)≤1048576) (hl:(x.values.length:Int)≤1048576) (hsm:∀v∈x.values,(v.size:Int)≤1048576) :
 Calls Tryz.prog 206 #[.slice A n c,.agg cs.toArray] w fun e w'=>e = .returned (.bool (aaK labels x))∧Below w.heap.size w w':=by
 subst hn
 have Eo:=Lib.hid hsm
 clear hsm
 have hr:=h'
 obtain ⟨jy,ji,Bo,hck,qp,hkey,hop,kV⟩:=og hr
 subst hck
 clear qp hr
 cases hK:uh x with
 | false =>
   have HF:=Lib.hid (apu (labels:=labels) hK)
   have HK:=Lib.hid hK
   clear hK
   go_enter Tryz.func206,Tryz.ntmps206
   go_wp2_with fail
   refine (Rx x _ _ _ (aJ h' atS) hks hl Eo.out).mono ?_
   rw [HK.out]
   rintro e w2 ⟨rfl,hb2⟩
   exact Zaau
 | true =>
   have hops:=aiV hK
   have HU:=Lib.hid (show aaK labels x = (if x.op = 1 then (Df x.key labels).2&&MF (Df x.key labels).1 x.values
  else if x.op = 2 then !(Df x.key labels).2 || !MF (Df x.key labels).1 x.values
  else if x.op = 3 then (Df x.key labels).2 else !(Df x.key labels).2) by unfold aaK;rw [hK,Bool.true_and])
   have HK:=Lib.hid hK
   clear hK
   obtain ⟨v,t,hvt⟩:∃v t,Df x.key labels = (v,t):=⟨_,_,rfl⟩
   have hu:=HU.out
   rw [hvt] at hu
   have HL:=Lib.hid hvt
   clear HU hvt
   go_enter Tryz.func206,Tryz.ntmps206
   go_wp2_with fail
   refine (Rx x _ _ _ (aJ h' atS) hks hl Eo.out).mono ?_
   rw [HK.out]
   rintro e w2 ⟨rfl,hb2⟩
   obtain ⟨hc2,hf2⟩:=ay hb2
   have hz2:w.heap.size < w2.heap.size:=by have:=hb2.size;simp at this;omega
   have hq0:w2.cell? ⟨w.heap.size,0,none⟩ = some (.string x.key):=by rw [hc2 _ _ (by simp),cell_of_row _ _ _ _ _ _ (heap_alloc_new w _)];rfl
   have hq1:w2.cell? ⟨w.heap.size,1,none⟩ = some (.int .i64 x.op):=by rw [hc2 _ _ (by simp),cell_of_row _ _ _ _ _ _ (heap_alloc_new w _)];rfl
   have hq2:w2.cell? ⟨w.heap.size,2,none⟩ = some (.slice jy x.values.length ji):=by rw [hc2 _ _ (by simp),cell_of_row _ _ _ _ _ _ (heap_alloc_new w _)];rfl
   have hB2:Below w.heap.size w w2:=atS
   clear hc2 hf2
   go_wp2_with fail
   refine (akK labels x.key _ _ _ _ _ (h.ext hB2) rfl hll).mono ?_
   rw [HL.out]
   rintro e w3 ⟨rfl,hb3⟩
   replace hq1:=((ay hb3).1 _ _ hz2).trans hq1
   replace hq2:=((ay hb3).1 _ _ hz2).trans hq2
   have hz3:w.heap.size < w3.heap.size:=by have:=hb3.size;omega
   have hB3:=ah hB2 hb3
   clear hq0
   have HU:=Lib.hid hu
   clear hu
   rcases hops with hop | hop | hop | hop
   all_goals
    have hu:=HU.out
    rw [hop] at hu hq1
    simp only [Int.reduceEq,↓reduceIte] at hu
    cases hh:MF v x.values <;> cases t
    all_goals
     have hu2:=hu
     try rw [hh] at hu2
     have HU2:=Lib.hid hu2
     have HH:=Lib.hid hh
     clear hu2 hu hh hop
     go_wp2_with (go_at_call 213;refine (aaG x.values v _ _ _ _ _ (kV.ext atS) rfl hl).mono ?_;rw [HH.out];rintro e w4 ⟨rfl,hb4⟩)
     go_ret
     exact ⟨by rw [HU2.out];rfl,atS⟩
end Go.Proofs.YtogkjlcoadhpgaaGreat
namespace Go.Proofs.YtogkjlcoadhpgaaGreat
open Go.ChangeShapes Go.WideShapes Go.ChangeAt Go.RowKit
set_option linter.unusedVariables false
set_option linter.unusedSimpArgs false
def Hw (labels:List Label) (xs:List Need):Bool:=xs.all (aaK labels)
theorem acu {labels:List Label} {xs:List Need} {k:Nat} (hk:k < xs.length) (h:aaK labels xs[k] = false):Hw labels xs = false:=by
 unfold Hw;rw [List.all_eq_false];exact ⟨xs[k],List.getElem_mem ..,by simp [h]⟩
theorem amX {α:Type} {p:α→Bool} {xs:List α} {k:Nat} (hk:k < xs.length) (h:∀x∈xs.take k,p x = true) (hx:p xs[k] = true):∀x∈xs.take (k+1),p x = true:=by
 rw [List.take_succ_eq_append_getElem hk]
 intro x hm
 rcases List.mem_append.1 hm with hm | hm
 ·exact h x hm
 ·simp only [List.mem_singleton] at hm;rw [hm];exact hx
theorem acv {labels:List Label} {xs:List Need} (h:∀x∈xs,aaK labels x = true):Hw labels xs = true:=by
 unfold Hw;rw [List.all_eq_true];exact h
set_option maxRecDepth 100000 in
set_option maxHeartbeats 1000000 in
theorem ala (xs:List Need) (labels:List Label) (A B:Option Addr) (n m c d:Nat) (F G:List Nat) (w:World) (h:Sl w xs A c F) (h':Sl w labels B d G) (hn:n = xs.length) (hm:m = labels.length) (hl:(xs.length:Int)≤1048576) (hll:(labels.length:Int)≤1048576)
 (hsm:(∀l∈xs,(l.key.size:Int)≤1048576∧(l.values.length:Int)≤1048576∧∀v∈l.values,(v.size:Int)≤1048576)) :
 Calls Tryz.prog 198 #[.slice A n c,.slice B m d] w fun e w'=>e = .returned (.bool (Hw labels xs))∧Below w.heap.size w w':=by
 subst hn hm
 have Eo:=Lib.hid hsm
 clear hsm
 go_enter Tryz.func198,Tryz.ntmps198
 go_wp2_with fail
 go_loopw [9] (fun i wr=>∃k:Nat,k≤xs.length∧i = .int .i64 k∧Hid (∀x∈xs.take k,aaK labels x = true)∧Below w.heap.size w wr) (fun i _=>xs.length - (intOf i).toNat)
 case atStart=>exact ⟨0,Nat.zero_le _,rfl,by show ∀_,_;simp,atS⟩
 case round =>
  obtain ⟨k,hk,rfl,HN,hbl⟩:=hrel
  by_cases hlt:k < xs.length
  ·obtain ⟨b,o,ck,Fk,rfl,o9,hbs,hr,hsub,hc⟩:=(Sl.ext (w':=wr) (A:=A) (c:=c) h hbl).get hlt
   obtain ⟨jy,ji,Bo,hck,su,hkey,hop,kV⟩:=og hr
   subst hck
   have q0:wr.cell? ⟨b,o+k * 3,none⟩ = some (.string xs[k].key):=by exact hc 0 _ rfl
   have q1:wr.cell? ⟨b,o+k * 3+1,none⟩ = some (.int .i64 xs[k].op):=by rw [Nat.add_assoc];exact hc 1 _ rfl
   have q2:wr.cell? ⟨b,o+k * 3+2,none⟩ = some (.slice jy xs[k].values.length ji):=by rw [Nat.add_assoc];exact hc 2 _ rfl
   clear hc
   obtain ⟨hs1,hs2,hs3⟩:=Eo.out xs[k] (List.getElem_mem ..)
   cases hp:aaK labels xs[k] with
   | true =>
     have Gn:=Lib.hid (amX hlt HN.out hp)
     have HP:=Lib.hid hp
     clear hp
     go_wp2_with fail
     refine (abY labels xs[k] _ _ _ _ _ _ _ (h'.ext atS) rfl (aJ hr atS) hll hs1 hs2 hs3).mono ?_
     rw [HP.out]
     rintro e wn ⟨rfl,hn⟩
     exact Zach
   | false =>
     have HF:=Lib.hid (acu hlt hp)
     have HP:=Lib.hid hp
     clear hp
     go_wp2_with fail
     refine (abY labels xs[k] _ _ _ _ _ _ _ (h'.ext atS) rfl (aJ hr atS) hll hs1 hs2 hs3).mono ?_
     rw [HP.out]
     rintro e wn ⟨rfl,hn⟩
     exact Zaau
  ·exact Zaff
set_option maxRecDepth 100000 in
set_option maxHeartbeats 1000000 in
theorem alb (xs:List Need) (labels:List Label) (A B:Option Addr) (n m c d:Nat) (F G:List Nat) (w:World) (h:Sl w xs A c F) (h':Sl w labels B d G) (hn:n = xs.length) (hm:m = labels.length) (hl:(xs.length:Int)≤1048576) (hll:(labels.length:Int)≤1048576)
 (hsm:(∀l∈xs,(l.key.size:Int)≤1048576∧(l.values.length:Int)≤1048576∧∀v∈l.values,(v.size:Int)≤1048576)) :
 Calls Tryz.prog 194 #[.slice A n c,.slice B m d] w fun e w'=>e = .returned (.bool (Hw labels xs))∧Below w.heap.size w w':=by
 subst hn hm
 have Eo:=Lib.hid hsm
 clear hsm
 go_enter Tryz.func194,Tryz.ntmps194
 go_wp2_with fail
 go_loopw [5] (fun i wr=>∃k:Nat,k≤xs.length∧i = .int .i64 k∧Hid (∀x∈xs.take k,aaK labels x = true)∧Below w.heap.size w wr) (fun i _=>xs.length - (intOf i).toNat)
 case atStart=>exact ⟨0,Nat.zero_le _,rfl,by show ∀_,_;simp,atS⟩
 case round =>
  obtain ⟨k,hk,rfl,HN,hbl⟩:=hrel
  by_cases hlt:k < xs.length
  ·obtain ⟨b,o,ck,Fk,rfl,o9,hbs,hr,hsub,hc⟩:=(Sl.ext (w':=wr) (A:=A) (c:=c) h hbl).get hlt
   obtain ⟨jy,ji,Bo,hck,su,hkey,hop,kV⟩:=og hr
   subst hck
   have q0:wr.cell? ⟨b,o+k * 3,none⟩ = some (.string xs[k].key):=by exact hc 0 _ rfl
   have q1:wr.cell? ⟨b,o+k * 3+1,none⟩ = some (.int .i64 xs[k].op):=by rw [Nat.add_assoc];exact hc 1 _ rfl
   have q2:wr.cell? ⟨b,o+k * 3+2,none⟩ = some (.slice jy xs[k].values.length ji):=by rw [Nat.add_assoc];exact hc 2 _ rfl
   clear hc
   obtain ⟨hs1,hs2,hs3⟩:=Eo.out xs[k] (List.getElem_mem ..)
   cases hp:aaK labels xs[k] with
   | true =>
     have Gn:=Lib.hid (amX hlt HN.out hp)
     have HP:=Lib.hid hp
     clear hp
     go_wp2_with fail
     refine (abZ labels xs[k] _ _ _ _ _ _ _ (h'.ext atS) rfl (aJ hr atS) hll hs1 hs2 hs3).mono ?_
     rw [HP.out]
     rintro e wn ⟨rfl,hn⟩
     exact Zach
   | false =>
     have HF:=Lib.hid (acu hlt hp)
     have HP:=Lib.hid hp
     clear hp
     go_wp2_with fail
     refine (abZ labels xs[k] _ _ _ _ _ _ _ (h'.ext atS) rfl (aJ hr atS) hll hs1 hs2 hs3).mono ?_
     rw [HP.out]
     rintro e wn ⟨rfl,hn⟩
     exact Zaau
  ·exact Zaff
end Go.Proofs.YtogkjlcoadhpgaaGreat
