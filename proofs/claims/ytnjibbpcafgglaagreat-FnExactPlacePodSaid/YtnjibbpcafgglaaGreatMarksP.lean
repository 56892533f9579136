/- Marks in plain Lean. No condition. -/
import Derived.Test.YtnjibbpcafgglaaGreatUsedP
import Derived.Test.YtnjibbpcafgglaaGreatLabOk
import Derived.Test.YtnjibbpcafgglaaGreatAt
import Derived.Test.YtnjibbpcafgglaaGreatShare0
namespace Go.Proofs.YtnjibbpcafgglaaGreat
open Go.ChangeShapes Go.WideShapes Go.ChangeAt Go.RowKit
set_option linter.unusedVariables false
set_option linter.unusedSimpArgs false
def qG (a b:Int):Int:=(GX a b).getD 9223372036854775807
theorem Ru {a b:Int} (ha:I64 a) (hb:I64 b):I64 (qG a b):=by
 unfold qG
 cases h:GX a b with
 | none=>exact ⟨by show _≤(9223372036854775807:Int);omega,by show (9223372036854775807:Int)≤_;omega⟩
 | some t=>exact abW h ha hb
def OT (nm:ByteArray) (x:aU) (p:nI):Int :=
 if pK (iM nm) x.hosts < 0 then 0 else
 match vU (F7 nm x.au),x.hosts[(pK (iM nm) x.hosts).toNat]? with
 | some (a,b),some h=>(CQ (qG a p.cpu) h.cpu+CQ (qG b p.mem) h.mem) / 2
 | _,_=>0
def EF (nm:ByteArray) (x:aU):Int :=
 if pK (iM nm) x.hosts < 0 then 0 else
 match vU (F7 nm x.au),x.hosts[(pK (iM nm) x.hosts).toNat]? with
 | some (a,b),some h=>100 - CQ (F7 nm x.au).length h.slots
 | _,_=>0
theorem amo {nm:ByteArray} {x:aU} {p:nI} (h:pK (iM nm) x.hosts = -1):OT nm x p = 0:=by unfold OT;rw [h];rfl
theorem agF {nm:ByteArray} {x:aU} {p:nI} (h:vU (F7 nm x.au) = none):OT nm x p = 0:=by unfold OT;rw [h];simp
theorem amq {nm:ByteArray} {x:aU} {p:nI} {k:Nat} {a b:Int} (hk:k < x.hosts.length) (h:pK (iM nm) x.hosts = k) (hs:vU (F7 nm x.au) = some (a,b)):OT nm x p = (CQ (qG a p.cpu) x.hosts[k].cpu+CQ (qG b p.mem) x.hosts[k].mem) / 2:=by
 unfold OT
 rw [h,if_neg (by omega),hs,Int.toNat_natCast,List.getElem?_eq_getElem hk]
theorem agG {nm:ByteArray} {x:aU} (h:pK (iM nm) x.hosts = -1):EF nm x = 0:=by unfold EF;rw [h];rfl
theorem abX {nm:ByteArray} {x:aU} (h:vU (F7 nm x.au) = none):EF nm x = 0:=by unfold EF;rw [h];simp
theorem agH {nm:ByteArray} {x:aU} {k:Nat} {a b:Int} (hk:k < x.hosts.length) (h:pK (iM nm) x.hosts = k) (hs:vU (F7 nm x.au) = some (a,b)):EF nm x = 100 - CQ (F7 nm x.au).length x.hosts[k].slots:=by
 unfold EF
 rw [h,if_neg (by omega),hs,Int.toNat_natCast,List.getElem?_eq_getElem hk]
theorem adO (nm:ByteArray) (x:aU) (p:nI):0≤OT nm x p∧OT nm x p≤100:=by
 unfold OT
 split
 ·omega
 ·split
  ·rename_i a b h _ _
   have h1:=zJ (qG a p.cpu) h.cpu
   have h2:=zJ (qG b p.mem) h.mem
   omega
  ·omega
theorem ZO (nm:ByteArray) (x:aU):0≤EF nm x∧EF nm x≤100:=by
 unfold EF
 split
 ·omega
 ·split
  ·rename_i a b h _ _
   have h1:=zJ (F7 nm x.au).length h.slots
   omega
  ·omega
end Go.Proofs.YtnjibbpcafgglaaGreat
