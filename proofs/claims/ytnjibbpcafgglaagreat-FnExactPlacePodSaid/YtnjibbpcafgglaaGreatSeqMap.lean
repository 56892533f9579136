/- A map from numbers to bools that the call has made. No condition. -/
import Derived.Test.YtnjibbpcafgglaaGreatClusterP
import Derived.Maps.OwnOps
import Derived.Maps.Views
namespace Go.Proofs.YtnjibbpcafgglaaGreat
open Go.ChangeShapes Go.WideShapes Go.ChangeAt Go.RowKit
set_option linter.unusedVariables false
set_option linter.unusedSimpArgs false
open Go.Maps (Keyed)
theorem NY {H:Type} {P:Program} {w:World} {t k e:TypeId} {b n:Nat} {D:DataW H} (h:w.ownsMap P k (plainElem P e) b n D) (K:Keyed P k) (ht:P.underlying t = some (.map k e)) (he:P.underlying e = some .bool) (hz:(zeroValue e).run P w = .ok (.bool false) w)
 {key:Value} {kl:Lit} (hkey:keyOf P k key = some kl) {c:Bool} (hat:D.atKey kl (.lit (.bool false)) = .lit (.bool c)):(Instr.lookup t (.map (some b)) key false).run P w = .ok (.bool c) w:=by
 obtain ⟨v,ps,hrun,hv⟩:=h.lookup K ht hz (plainElem_bool he false) hkey
 rw [hat] at hv
 unfold plainElem at hv
 rw [he] at hv
 cases v <;> simp at hv
 obtain ⟨rfl,_⟩:=hv
 exact hrun
theorem aoU {H:Type} {P:Program} (w:World) {ops:Array Oper} {rest:List Oper} {o:Oper} {a:Act} {Q:Exit→Act→World→Prop}
 (hg:o.guard = none) (m x:Operand) (t:TypeId) (hop:o.op = Op.lookup t m x false)
 (k e:TypeId) (K:Keyed P k) (ht:P.underlying t = some (.map k e)) (he:P.underlying e = some .bool) (hz:(zeroValue e).run P w = .ok (.bool false) w) (b n:Nat) (D:DataW H)
 (hm:a.eval m = .map (some b)) (hown:w.ownsMap P k (plainElem P e) b n D) (key:Value) (kl:Lit) (hx:a.eval x = key) (hkey:keyOf P k key = some kl) {c:Bool} (hat:D.atKey kl (.lit (.bool false)) = .lit (.bool c))
 (hK:wpList P ops Q rest (a.put o.dst (.bool c)) w):wpList P ops Q (o :: rest) a w:=by
 refine wpList_plain hg fun K' hK'=>?_
 have hrun:=NY hown K ht he hz hkey hat
 unfold Oper.wp
 simp [execOp,hop,hm,hx,hrun,Result.andThen]
 exact hK' _ _ hK
def anK (xs:List Placed):DataW Unit:=xs.foldl (fun D p=>D.put (.int .i64 p.seq) (.lit (.bool true))) (.map [])
theorem J3 (xs:List Placed) (p:Placed):anK (xs++[p]) = (anK xs).put (.int .i64 p.seq) (.lit (.bool true)):=by unfold anK;rw [List.foldl_append];rfl
theorem aqk (s:Int) (hs:I64 s):WideAt.IsKeyLit (.int .i64 s):=by
 simp [WideAt.IsKeyLit]
theorem adr (s:Int) (hs:I64 s):∀(xs:List Placed) (D:DataW Unit) (c:Bool),Maps.IsMap D→D.atKey (.int .i64 s) (.lit (.bool false)) = .lit (.bool c) →
 (xs.foldl (fun D p=>D.put (.int .i64 p.seq) (.lit (.bool true))) D).atKey (.int .i64 s) (.lit (.bool false)) = .lit (.bool (c || seenIn xs s))
 | [],D,c,_,h=>by simpa [seenIn] using h
 | p :: xs,D,c,hD,h=>by
   rw [List.foldl_cons]
   by_cases e:p.seq = s
   ·rw [adr s hs xs _ true (hD.put _ _) (by rw [e];exact Maps.atKey_put_same hD (aqk s hs) _ _)]
    simp [seenIn,e]
   ·rw [adr s hs xs _ c (hD.put _ _) (by rw [Maps.atKey_put_other (by intro h2;apply e;injection h2 with _ h3;exact h3.symm)];exact h)]
    have e2:(p.seq == s) = false:=by simpa using e
    simp [seenIn,e2]
theorem aeY (xs:List Placed) (s:Int) (hs:I64 s):(anK xs).atKey (.int .i64 s) (.lit (.bool false)) = .lit (.bool (seenIn xs s)):=by
 have h:=adr s hs xs (.map []) false Maps.isMap_empty rfl
 simpa [anK] using h
theorem Oy:Keyed Tryz.prog 3:=Maps.int_keyed Tryz.underlying3
theorem abl (w:World):(zeroValue 4).run Tryz.prog w = .ok (.bool false) w:=by kernel_rfl
theorem grown_of {w w':World} (hb:Below w.heap.size w w'):w.grownBy w' none:=⟨hb.os,hb.tape,hb.output,hb.size,fun k hk _=>hb.block k hk⟩
end Go.Proofs.YtnjibbpcafgglaaGreat
