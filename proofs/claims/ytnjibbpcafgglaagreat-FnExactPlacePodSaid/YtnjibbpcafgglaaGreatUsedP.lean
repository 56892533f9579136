/- What a host's pods use, in plain Lean. No condition. -/
import Derived.Test.YtnjibbpcafgglaaGreatSmalls
import Derived.Test.YtnjibbpcafgglaaGreatUsed
namespace Go.Proofs.YtnjibbpcafgglaaGreat
open Go.ChangeShapes Go.WideShapes Go.ChangeAt Go.RowKit
set_option linter.unusedVariables false
set_option linter.unusedSimpArgs false
theorem ahT:∀(xs:List Int) (s t:Int),(∀x∈xs,I64 x)→I64 s→GZ xs s = some t→I64 t
 | [],s,t,_,hs,h=>by simp only [GZ,Option.some.injEq] at h;subst h;exact hs
 | x :: xs,s,t,hx,hs,h=>by
   simp only [GZ] at h
   cases e:GX s x with
   | none=>rw [e] at h;cases h
   | some m =>
     rw [e] at h
     exact ahT xs m t (fun y hy=>hx y (List.mem_cons_of_mem _ hy)) (abW e hs (hx x (List.mem_cons_self ..))) h
theorem aqt {xs:List nI} {a b:Int} (hx:∀p∈xs,I64 p.cpu∧I64 p.mem) (h:vU xs = some (a,b)):I64 a∧I64 b:=by
 unfold vU at h
 cases e1:GZ (xs.map nI.cpu) 0 with
 | none=>rw [e1] at h;cases h
 | some m =>
   cases e2:GZ (xs.map nI.mem) 0 with
   | none=>rw [e1,e2] at h;cases h
   | some n =>
     rw [e1,e2] at h
     simp only [Option.some.injEq,Prod.mk.injEq] at h
     obtain ⟨rfl,rfl⟩:=h
     have z:I64 0:=⟨by omega,by omega⟩
     refine ⟨ahT _ 0 _ (fun y hy=>?_) z e1,ahT _ 0 _ (fun y hy=>?_) z e2⟩
     ·obtain ⟨p,hp,rfl⟩:=List.mem_map.1 hy;exact (hx p hp).1
     ·obtain ⟨p,hp,rfl⟩:=List.mem_map.1 hy;exact (hx p hp).2
theorem atL {nm:ByteArray} {xs:List Placed} {p:nI} (h:p∈F7 nm xs):∃q∈xs,p = q.aS:=by
 unfold F7 at h
 obtain ⟨q,hq,rfl⟩:=List.mem_map.1 h
 exact ⟨q,(List.mem_filter.1 hq).1,rfl⟩
theorem Sl.ao8 {w:World} {xs:List Placed} {A:Option Addr} {c:Nat} {F:List Nat} (h:Sl w xs A c F):∀p∈xs,I64 p.aS.cpu∧I64 p.aS.mem:=by
 intro p hp
 obtain ⟨k,hk,rfl⟩:=List.getElem_of_mem hp
 obtain ⟨b,o,ck,Fk,_,_,_,hr,_⟩:=h.get hk
 obtain ⟨gV,gW,lF,iR,iT,mV,dD,dF,iH,hck,hF,nY,iE,rF,rG,oZ,je,dN,hon,hseq⟩:=kE hr
 exact ⟨rF,rG⟩
theorem UD {w:World} {xs:List Placed} {A:Option Addr} {c:Nat} {F:List Nat} {nm:ByteArray} {a b:Int} (h:Sl w xs A c F) (hs:vU (F7 nm xs) = some (a,b)):I64 a∧I64 b :=
 aqt (fun p hp=>by obtain ⟨q,hq,rfl⟩:=atL hp;exact h.ao8 q hq) hs
theorem AX {nm:ByteArray} {xs:List Placed} {a b:Int} (h:vU (F7 nm xs) = some (a,b)):KF nm xs = .tuple #[.int .i64 a,.int .i64 b,.int .i64 (F7 nm xs).length,.bool true]:=by unfold KF;rw [h]
theorem AV {nm:ByteArray} {xs:List Placed} (h:vU (F7 nm xs) = none):KF nm xs = .tuple #[.int .i64 0,.int .i64 0,.int .i64 0,.bool false]:=by unfold KF;rw [h]
end Go.Proofs.YtnjibbpcafgglaaGreat
