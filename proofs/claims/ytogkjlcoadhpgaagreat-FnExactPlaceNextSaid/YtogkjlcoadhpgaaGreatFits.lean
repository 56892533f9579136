/- fits. What a reason against a pod on a host is. No condition. -/
import Derived.Test.YtogkjlcoadhpgaaGreatSoft
import Derived.Test.YtogkjlcoadhpgaaGreatUntolI
import Derived.Test.YtogkjlcoadhpgaaGreatHostOk
namespace Go.Proofs.YtogkjlcoadhpgaaGreat
open Go.ChangeShapes Go.WideShapes Go.ChangeAt Go.RowKit
set_option linter.unusedVariables false
set_option linter.unusedSimpArgs false
def Jo (used more most:Int):Bool:=match GX used more with | some s=>decide (s≤most) | none=>false
def Vm (h:Host) (p:nI) (a b n:Int):Int :=
 if Hw h.labels p.needs = false then 1 else if 0 < (BD p.tolerances 1 h.aT:Int) then 2
 else if Jo a p.cpu h.cpu = false then 3 else if Jo b p.mem h.mem = false then 4 else if h.slots≤n then 5 else 0
def oH (nm:ByteArray) (x:aU) (p:nI):Int :=
 if pK (iM nm) x.hosts < 0 then 6 else
 match vU (F7 nm x.au),x.hosts[(pK (iM nm) x.hosts).toNat]? with
 | some (a,b),some h=>Vm h p a b (F7 nm x.au).length
 | _,_=>6
theorem afH {nm:ByteArray} {x:aU} {p:nI} (h:pK (iM nm) x.hosts = -1):oH nm x p = 6:=by unfold oH;rw [h];rfl
theorem abG {nm:ByteArray} {x:aU} {p:nI} (h:vU (F7 nm x.au) = none):oH nm x p = 6:=by unfold oH;rw [h];simp
theorem afI {nm:ByteArray} {x:aU} {p:nI} {k:Nat} {a b:Int} (hk:k < x.hosts.length) (h:pK (iM nm) x.hosts = k) (hs:vU (F7 nm x.au) = some (a,b)):oH nm x p = Vm x.hosts[k] p a b (F7 nm x.au).length:=by
 unfold oH
 exact Zad9
theorem afJ {h:Host} (hw:(h.wt:Int)≤1048576):((h.labels.length:Int)≤1048576)∧((kL iU.wt h.aT:Int)≤1048576):=by
 have hwx:h.wt = h.name.size+kL Label.wt h.labels+kL iU.wt h.aT:=rfl
 have:=gJ Label.wt h.labels
 omega
theorem LZ (a b c:Int) (w:World) (ha:I64 a) (hb:I64 b):Calls Tryz.prog 199 #[.int .i64 a,.int .i64 b,.int .i64 c] w fun e w'=>e = .returned (.bool (Jo a b c))∧Below w.heap.size w w':=by
 cases h:GX a b with
 | none =>
   have HF:=Lib.hid (show Jo a b c = false by unfold Jo;rw [h])
   have HA:=Lib.hid h
   go_enter Tryz.func199,Tryz.ntmps199
   exact Zae6
 | some s =>
   have HF:=Lib.hid (show Jo a b c = decide (s≤c) by unfold Jo;rw [h])
   have HA:=Lib.hid h
   go_enter Tryz.func199,Tryz.ntmps199
   exact Zae6
end Go.Proofs.YtogkjlcoadhpgaaGreat
namespace Go.Proofs.YtogkjlcoadhpgaaGreat
open Go.ChangeShapes Go.WideShapes Go.ChangeAt Go.RowKit
set_option linter.unusedVariables false
set_option linter.unusedSimpArgs false
set_option maxRecDepth 100000 in
set_option maxHeartbeats 4000000 in
theorem Tz (x:aU) (p:nI) (cs ps:List Value) (F G:List Nat) (nm:ByteArray) (w:World) (h:rd w x cs F) (h':rd w p ps G) (hw:(x.wt:Int)≤1048576) (hw':(p.wt:Int)≤1048576) :
 Calls Tryz.prog 176 #[.agg cs.toArray,.string nm,.agg ps.toArray] w fun e w'=>e = .returned (.int .i64 (oH nm x p))∧Below w.heap.size w w':=by
 have hwx:x.wt = kL Host.wt x.hosts+kL Placed.wt x.au:=rfl
 have hwp:p.wt = p.name.size+kL Label.wt p.labels+kL Need.wt p.needs+kL bH.wt p.tolerances:=rfl
 have hlen:(x.hosts.length:Int)≤1048576:=by have:=gJ Host.wt x.hosts;omega
 have vk:(x.au.length:Int)≤1048576:=by have:=gJ Placed.wt x.au;omega
 obtain ⟨htl,hts⟩:=FQ (xs:=p.tolerances) (by omega)
 obtain ⟨hnl,hns⟩:=Aa (xs:=p.needs) (by omega)
 have Ux:=Lib.hid hts
 have HNS:=Lib.hid hns
 clear hts hns
 have hr:=h
 have hr':=h'
 obtain ⟨bG,bD,fQ,dn,bW,jg,hck,hF,bQ,dM,hnext,aV,aP,aW⟩:=aO hr
 obtain ⟨bY,bZ,iq,eU,eX,jV,bg,bn,dK,jU,hG,jW,dA,kQ,lg,lG,iO,bK⟩:=dL hr'
 subst hck jU
 clear hF hG hr hr'
 rcases yg (iM nm) x.hosts with hi | ⟨k,hk,hi⟩
 ·have HF:=Lib.hid (afH (p:=p) hi)
  have HI:=Lib.hid hi
  clear hi
  cases hs:vU (F7 nm x.au) with
  | none =>
    have HU:=Lib.hid (AV hs)
    clear hs
    go_enter Tryz.func176,Tryz.ntmps176
    exact Zaao
  | some ab =>
    obtain ⟨a,b⟩:=ab
    have HU:=Lib.hid (AX hs)
    clear hs
    go_enter Tryz.func176,Tryz.ntmps176
    exact Zaao
 ·cases hs:vU (F7 nm x.au) with
  | none =>
    have HF:=Lib.hid (abG (p:=p) hs)
    have HI:=Lib.hid hi
    clear hi
    have HU:=Lib.hid (AV hs)
    clear hs
    go_enter Tryz.func176,Tryz.ntmps176
    exact Zaao
  | some ab =>
    obtain ⟨a,b⟩:=ab
    have hat:=afI (p:=p) hk hi hs
    obtain ⟨ha,hb⟩:=UD (A:=dn) (c:=bW) dM hs
    have HI:=Lib.hid hi
    clear hi
    have HU:=Lib.hid (AX hs)
    clear hs
    have hL:=NK nm x.au
    generalize (F7 nm x.au).length = L at hat HU hL
    have hLi:(L:Int)≤1048576:=by omega
    clear hL
    obtain ⟨hhl,hht⟩:=afJ (h:=x.hosts[k]) (by have:=rM (f:=Host.wt) hk;omega)
    obtain ⟨hxl,hxs⟩:=BH hht
    have hul:=UN p.tolerances 1 x.hosts[k].aT
    obtain ⟨bh,o,ck,Fk,rfl,o9,hbs,hr,hsub,hc⟩:=Sl.get (α:=Host) (A:=bG) (c:=bD) bQ hk
    obtain ⟨jM,jO,sN,jE,jF,sO,hck,su,zM,qY,Gt,Gw,xg,qA⟩:=iy hr
    subst hck
    have q0:w.cell? ⟨bh,o+k * 6,none⟩ = some (.string x.hosts[k].name):=by exact hc 0 _ rfl
    have q1:w.cell? ⟨bh,o+k * 6+1,none⟩ = some (.slice jM x.hosts[k].labels.length jO):=by rw [Nat.add_assoc];exact hc 1 _ rfl
    have q2:w.cell? ⟨bh,o+k * 6+2,none⟩ = some (.int .i64 x.hosts[k].cpu):=by rw [Nat.add_assoc];exact hc 2 _ rfl
    have q3:w.cell? ⟨bh,o+k * 6+3,none⟩ = some (.int .i64 x.hosts[k].mem):=by rw [Nat.add_assoc];exact hc 3 _ rfl
    have q4:w.cell? ⟨bh,o+k * 6+4,none⟩ = some (.int .i64 x.hosts[k].slots):=by rw [Nat.add_assoc];exact hc 4 _ rfl
    have q5:w.cell? ⟨bh,o+k * 6+5,none⟩ = some (.slice jE x.hosts[k].aT.length jF):=by rw [Nat.add_assoc];exact hc 5 _ rfl
    clear hc
    have aa1:=Lib.hid (show ∀wq,Below w.heap.size w wq→Calls Tryz.prog 194 #[.slice eU p.needs.length eX,.slice jM x.hosts[k].labels.length jO] wq fun e w'=>e = .returned (.bool (Hw x.hosts[k].labels p.needs))∧Below wq.heap.size wq w' from
     fun wq hq=>alb p.needs x.hosts[k].labels _ _ _ _ _ _ _ _ wq (iO.ext hq) (qY.ext hq) rfl rfl hnl hhl HNS.out)
    have hUT:∀wq,Below w.heap.size w wq→Calls Tryz.prog 179 #[.slice bg p.tolerances.length bn,.slice jE x.hosts[k].aT.length jF,.int .i64 1] wq fun e w'=>e = .returned (.int .i64 (BD p.tolerances 1 x.hosts[k].aT))∧Below wq.heap.size wq w' :=
     fun wq hq=>UQ p.tolerances x.hosts[k].aT 1 _ _ _ _ _ _ _ _ _ (bK.ext hq) (qA.ext hq) rfl rfl htl hxl Ux.out hxs
    have HUN:=Lib.hid hUT
    unfold Vm at hat
    clear hUT hxs
    generalize BD p.tolerances 1 x.hosts[k].aT = z at HUN hat hul
    have hzl:(z:Int)≤1048576:=by omega
    have HAT:=Lib.hid hat
    clear hat
    have HLEN:=Lib.hid (show (x.hosts.length:Int)≤1048576 from hlen)
    clear hht hhl hxl hlen
    go_enter Tryz.func176,Tryz.ntmps176
    go_wp2_with fail
    refine (gQ x _ _ nm _ (aJ h atS) HLEN.out).mono ?_
    rw [HI.out]
    rintro e w2 ⟨rfl,hb2⟩
    obtain ⟨hc2,hf2⟩:=ay hb2
    have hz2:w.heap.size < w2.heap.size:=(sq hb2.size)
    have hy2:w.heap.size+1 < w2.heap.size:=(sq hb2.size)
    have hB2:Below w.heap.size w w2:=atS
    go_wp2_with fail
    refine (jm x _ _ nm _ (aJ h atS) vk).mono ?_
    rw [HU.out]
    rintro e w3 ⟨rfl,hb3⟩
    obtain ⟨hc3,hf3⟩:=ay hb3
    have hz3:w.heap.size < w3.heap.size:=(sq hb3.size)
    have hy3:w.heap.size+1 < w3.heap.size:=(sq hb3.size)
    have hB3:Below w.heap.size w w3:=ah hB2 hb3
    replace q0:=((ay hB3).1 bh _ hbs).trans q0
    replace q1:=((ay hB3).1 bh _ hbs).trans q1
    replace q2:=((ay hB3).1 bh _ hbs).trans q2
    replace q3:=((ay hB3).1 bh _ hbs).trans q3
    replace q4:=((ay hB3).1 bh _ hbs).trans q4
    replace q5:=((ay hB3).1 bh _ hbs).trans q5
    have jd:bh < w3.heap.size:=by have:=hB3.size;omega
    cases hS:Hw x.hosts[k].labels p.needs
    ·exact Zaex
    ·by_cases hu:(0:Int) < (z:Int)
     ·exact Zaek
     ·cases he1:GX a p.cpu with
      | none =>
        have hf1:Jo a p.cpu x.hosts[k].cpu = false:=by unfold Jo;rw [he1]
        exact Zabe
      | some s1 =>
        by_cases hle1:s1≤x.hosts[k].cpu
        ·have hf1:Jo a p.cpu x.hosts[k].cpu = true:=by unfold Jo;rw [he1];simp [hle1]
         cases he2:GX b p.mem with
         | none =>
           have hf2:Jo b p.mem x.hosts[k].mem = false:=by unfold Jo;rw [he2]
           exact Zafg
         | some s2 =>
           by_cases hle2:s2≤x.hosts[k].mem
           ·have hf2:Jo b p.mem x.hosts[k].mem = true:=by unfold Jo;rw [he2];simp [hle2]
            by_cases hsl:x.hosts[k].slots≤(L:Int)
            ·have HF:=Lib.hid (show oH nm x p = 5 by rw [HAT.out,if_neg (by simp [hS]),if_neg hu,if_neg (by simp [hf1]),if_neg (by simp [hf2]),if_pos hsl])
             exact Zaap
            ·have HF:=Lib.hid (show oH nm x p = 0 by rw [HAT.out,if_neg (by simp [hS]),if_neg hu,if_neg (by simp [hf1]),if_neg (by simp [hf2]),if_neg hsl])
             exact Zaap
           ·have hf2:Jo b p.mem x.hosts[k].mem = false:=by unfold Jo;rw [he2];simp [hle2]
            exact Zafg
        ·have hf1:Jo a p.cpu x.hosts[k].cpu = false:=by unfold Jo;rw [he1];simp [hle1]
         exact Zabe
end Go.Proofs.YtogkjlcoadhpgaaGreat
namespace Go.Proofs.YtogkjlcoadhpgaaGreat
open Go.ChangeShapes Go.WideShapes Go.ChangeAt Go.RowKit
set_option linter.unusedVariables false
set_option linter.unusedSimpArgs false
set_option maxRecDepth 100000 in
set_option maxHeartbeats 4000000 in
theorem NC (x:aU) (p:nI) (cs ps:List Value) (F G:List Nat) (nm:ByteArray) (w:World) (h:rd w x cs F) (h':rd w p ps G) (hw:(x.wt:Int)≤1048576) (hw':(p.wt:Int)≤1048576) :
 Calls Tryz.prog 187 #[.agg cs.toArray,.string nm,.agg ps.toArray] w fun e w'=>e = .returned (.int .i64 (oH nm x p))∧Below w.heap.size w w':=by
 have hwx:x.wt = kL Host.wt x.hosts+kL Placed.wt x.au:=rfl
 have hwp:p.wt = p.name.size+kL Label.wt p.labels+kL Need.wt p.needs+kL bH.wt p.tolerances:=rfl
 have hlen:(x.hosts.length:Int)≤1048576:=by have:=gJ Host.wt x.hosts;omega
 have vk:(x.au.length:Int)≤1048576:=by have:=gJ Placed.wt x.au;omega
 obtain ⟨htl,hts⟩:=FQ (xs:=p.tolerances) (by omega)
 obtain ⟨hnl,hns⟩:=Aa (xs:=p.needs) (by omega)
 have Ux:=Lib.hid hts
 have HNS:=Lib.hid hns
 clear hts hns
 have hr:=h
 have hr':=h'
 obtain ⟨bG,bD,fQ,dn,bW,jg,hck,hF,bQ,dM,hnext,aV,aP,aW⟩:=aO hr
 obtain ⟨bY,bZ,iq,eU,eX,jV,bg,bn,dK,jU,hG,jW,dA,kQ,lg,lG,iO,bK⟩:=dL hr'
 subst hck jU
 clear hF hG hr hr'
 rcases yg (iM nm) x.hosts with hi | ⟨k,hk,hi⟩
 ·have HF:=Lib.hid (afH (p:=p) hi)
  have HI:=Lib.hid hi
  clear hi
  cases hs:vU (F7 nm x.au) with
  | none =>
    have HU:=Lib.hid (AV hs)
    clear hs
    go_enter Tryz.func187,Tryz.ntmps187
    exact Zaan
  | some ab =>
    obtain ⟨a,b⟩:=ab
    have HU:=Lib.hid (AX hs)
    clear hs
    go_enter Tryz.func187,Tryz.ntmps187
    exact Zaan
 ·cases hs:vU (F7 nm x.au) with
  | none =>
    have HF:=Lib.hid (abG (p:=p) hs)
    have HI:=Lib.hid hi
    clear hi
    have HU:=Lib.hid (AV hs)
    clear hs
    go_enter Tryz.func187,Tryz.ntmps187
    exact Zaan
  | some ab =>
    obtain ⟨a,b⟩:=ab
    have hat:=afI (p:=p) hk hi hs
    obtain ⟨ha,hb⟩:=UD (A:=dn) (c:=bW) dM hs
    have HI:=Lib.hid hi
    clear hi
    have HU:=Lib.hid (AX hs)
    clear hs
    have hL:=NK nm x.au
    generalize (F7 nm x.au).length = L at hat HU hL
    have hLi:(L:Int)≤1048576:=by omega
    clear hL
    obtain ⟨hhl,hht⟩:=afJ (h:=x.hosts[k]) (by have:=rM (f:=Host.wt) hk;omega)
    obtain ⟨hxl,hxs⟩:=BH hht
    have hul:=UN p.tolerances 1 x.hosts[k].aT
    obtain ⟨bh,o,ck,Fk,rfl,o9,hbs,hr,hsub,hc⟩:=Sl.get (α:=Host) (A:=bG) (c:=bD) bQ hk
    obtain ⟨jM,jO,sN,jE,jF,sO,hck,su,zM,qY,Gt,Gw,xg,qA⟩:=iy hr
    subst hck
    have q0:w.cell? ⟨bh,o+k * 6,none⟩ = some (.string x.hosts[k].name):=by exact hc 0 _ rfl
    have q1:w.cell? ⟨bh,o+k * 6+1,none⟩ = some (.slice jM x.hosts[k].labels.length jO):=by rw [Nat.add_assoc];exact hc 1 _ rfl
    have q2:w.cell? ⟨bh,o+k * 6+2,none⟩ = some (.int .i64 x.hosts[k].cpu):=by rw [Nat.add_assoc];exact hc 2 _ rfl
    have q3:w.cell? ⟨bh,o+k * 6+3,none⟩ = some (.int .i64 x.hosts[k].mem):=by rw [Nat.add_assoc];exact hc 3 _ rfl
    have q4:w.cell? ⟨bh,o+k * 6+4,none⟩ = some (.int .i64 x.hosts[k].slots):=by rw [Nat.add_assoc];exact hc 4 _ rfl
    have q5:w.cell? ⟨bh,o+k * 6+5,none⟩ = some (.slice jE x.hosts[k].aT.length jF):=by rw [Nat.add_assoc];exact hc 5 _ rfl
    clear hc
    have aa1:=Lib.hid (show ∀wq,Below w.heap.size w wq→Calls Tryz.prog 198 #[.slice eU p.needs.length eX,.slice jM x.hosts[k].labels.length jO] wq fun e w'=>e = .returned (.bool (Hw x.hosts[k].labels p.needs))∧Below wq.heap.size wq w' from
     fun wq hq=>ala p.needs x.hosts[k].labels _ _ _ _ _ _ _ _ wq (iO.ext hq) (qY.ext hq) rfl rfl hnl hhl HNS.out)
    have hUT:∀wq,Below w.heap.size w wq→Calls Tryz.prog 192 #[.slice bg p.tolerances.length bn,.slice jE x.hosts[k].aT.length jF,.int .i64 1] wq fun e w'=>e = .returned (.int .i64 (BD p.tolerances 1 x.hosts[k].aT))∧Below wq.heap.size wq w' :=
     fun wq hq=>UO p.tolerances x.hosts[k].aT 1 _ _ _ _ _ _ _ _ _ (bK.ext hq) (qA.ext hq) rfl rfl htl hxl Ux.out hxs
    have HUN:=Lib.hid hUT
    unfold Vm at hat
    clear hUT hxs
    generalize BD p.tolerances 1 x.hosts[k].aT = z at HUN hat hul
    have hzl:(z:Int)≤1048576:=by omega
    have HAT:=Lib.hid hat
    clear hat
    have HLEN:=Lib.hid (show (x.hosts.length:Int)≤1048576 from hlen)
    clear hht hhl hxl hlen
    go_enter Tryz.func187,Tryz.ntmps187
    go_wp2_with fail
    refine (gK x _ _ nm _ (aJ h atS) HLEN.out).mono ?_
    rw [HI.out]
    rintro e w2 ⟨rfl,hb2⟩
    obtain ⟨hc2,hf2⟩:=ay hb2
    have hz2:w.heap.size < w2.heap.size:=(sq hb2.size)
    have hy2:w.heap.size+1 < w2.heap.size:=(sq hb2.size)
    have hB2:Below w.heap.size w w2:=atS
    go_wp2_with fail
    refine (iQ x _ _ nm _ (aJ h atS) vk).mono ?_
    rw [HU.out]
    rintro e w3 ⟨rfl,hb3⟩
    obtain ⟨hc3,hf3⟩:=ay hb3
    have hz3:w.heap.size < w3.heap.size:=(sq hb3.size)
    have hy3:w.heap.size+1 < w3.heap.size:=(sq hb3.size)
    have hB3:Below w.heap.size w w3:=ah hB2 hb3
    replace q0:=((ay hB3).1 bh _ hbs).trans q0
    replace q1:=((ay hB3).1 bh _ hbs).trans q1
    replace q2:=((ay hB3).1 bh _ hbs).trans q2
    replace q3:=((ay hB3).1 bh _ hbs).trans q3
    replace q4:=((ay hB3).1 bh _ hbs).trans q4
    replace q5:=((ay hB3).1 bh _ hbs).trans q5
    have jd:bh < w3.heap.size:=by have:=hB3.size;omega
    cases hS:Hw x.hosts[k].labels p.needs
    ·exact Zaex
    ·by_cases hu:(0:Int) < (z:Int)
     ·exact Zaek
     ·cases hf1:Jo a p.cpu x.hosts[k].cpu
      ·have HF:=Lib.hid (show oH nm x p = 3 by rw [HAT.out,if_neg (by simp [hS]),if_neg hu,if_pos hf1])
       have HS:=Lib.hid hS
       clear hS
       have H1:=Lib.hid hf1
       clear hf1
       go_wp2_with fail
       refine (aa1.out _ atS).mono ?_
       rw [HS.out]
       rintro e w4 ⟨rfl,hb4⟩
       obtain ⟨hc4,hf4⟩:=ay hb4;have Wy:w.heap.size < w4.heap.size:=(sq hb4.size);have hy4:w.heap.size+1 < w4.heap.size:=(sq hb4.size);have hx4:w3.heap.size < w4.heap.size:=(sq hb4.size)
       go_wp2_with fail
       refine (HUN.out _ atS).mono ?_
       rintro e w5 ⟨rfl,hb5⟩
       obtain ⟨hc5,hf5⟩:=ay hb5;have Es:w.heap.size < w5.heap.size:=(sq hb5.size);have IV:w.heap.size+1 < w5.heap.size:=(sq hb5.size);have hx5:w3.heap.size < w5.heap.size:=(sq hb5.size)
       go_wp2_with fail
       refine (LZ a p.cpu x.hosts[k].cpu _ ha kQ).mono ?_
       rw [H1.out]
       rintro e w6 ⟨rfl,hb6⟩
       obtain ⟨hc6,Xe⟩:=ay hb6;have hz6:w.heap.size < w6.heap.size:=(sq hb6.size);have hy6:w.heap.size+1 < w6.heap.size:=(sq hb6.size);have hx6:w3.heap.size < w6.heap.size:=(sq hb6.size)
       exact Zabh
      ·cases hf2:Jo b p.mem x.hosts[k].mem
       ·have HF:=Lib.hid (show oH nm x p = 4 by rw [HAT.out,if_neg (by simp [hS]),if_neg hu,if_neg (by simp [hf1]),if_pos hf2])
        exact Zaay
       ·by_cases hsl:x.hosts[k].slots≤(L:Int)
        ·have HF:=Lib.hid (show oH nm x p = 5 by rw [HAT.out,if_neg (by simp [hS]),if_neg hu,if_neg (by simp [hf1]),if_neg (by simp [hf2]),if_pos hsl])
         exact Zaay
        ·have HF:=Lib.hid (show oH nm x p = 0 by rw [HAT.out,if_neg (by simp [hS]),if_neg hu,if_neg (by simp [hf1]),if_neg (by simp [hf2]),if_neg hsl])
         exact Zaay
end Go.Proofs.YtogkjlcoadhpgaaGreat
namespace Go.Proofs.YtogkjlcoadhpgaaGreat
open Go.ChangeShapes Go.WideShapes Go.ChangeAt Go.RowKit
set_option linter.unusedVariables false
set_option linter.unusedSimpArgs false
set_option maxRecDepth 100000 in
theorem N9 (x:aU) (p:nI) (cs ps:List Value) (F G:List Nat) (nm:ByteArray) (w:World) (h:rd w x cs F) (h':rd w p ps G) (hw:(x.wt:Int)≤1048576) (hw':(p.wt:Int)≤1048576) :
 Calls Tryz.prog 167 #[.agg cs.toArray,.string nm,.agg ps.toArray] w fun e w'=>e = .returned (.bool (oH nm x p == 0))∧Below w.heap.size w w':=by
 have hr:=h
 have hr':=h'
 obtain ⟨bG,bD,fQ,dn,bW,jg,hck,hF,bQ,dM,hnext,aV,aP,aW⟩:=aO hr
 obtain ⟨bY,bZ,iq,eU,eX,jV,bg,bn,dK,jU,hG,jW,dA,kQ,lg,lG,iO,bK⟩:=dL hr'
 subst hck jU
 clear hF hG hr hr'
 go_enter Tryz.func167,Tryz.ntmps167
 go_wp2_with fail
 refine (NC x p _ _ _ _ nm _ (aJ h atS) (aJ h' atS) hw hw').mono ?_
 rintro e w2 ⟨rfl,hb2⟩
 go_wp2
 go_ret
 exact ⟨rfl,atS⟩
set_option maxRecDepth 100000 in
theorem Oa (x:aU) (p:nI) (cs ps:List Value) (F G:List Nat) (nm:ByteArray) (w:World) (h:rd w x cs F) (h':rd w p ps G) (hw:(x.wt:Int)≤1048576) (hw':(p.wt:Int)≤1048576) :
 Calls Tryz.prog 155 #[.agg cs.toArray,.string nm,.agg ps.toArray] w fun e w'=>e = .returned (.bool (oH nm x p == 0))∧Below w.heap.size w w':=by
 have hr:=h
 have hr':=h'
 obtain ⟨bG,bD,fQ,dn,bW,jg,hck,hF,bQ,dM,hnext,aV,aP,aW⟩:=aO hr
 obtain ⟨bY,bZ,iq,eU,eX,jV,bg,bn,dK,jU,hG,jW,dA,kQ,lg,lG,iO,bK⟩:=dL hr'
 subst hck jU
 clear hF hG hr hr'
 go_enter Tryz.func155,Tryz.ntmps155
 go_wp2_with fail
 refine (Tz x p _ _ _ _ nm _ (aJ h atS) (aJ h' atS) hw hw').mono ?_
 rintro e w2 ⟨rfl,hb2⟩
 go_wp2
 go_ret
 exact ⟨rfl,atS⟩
end Go.Proofs.YtogkjlcoadhpgaaGreat
