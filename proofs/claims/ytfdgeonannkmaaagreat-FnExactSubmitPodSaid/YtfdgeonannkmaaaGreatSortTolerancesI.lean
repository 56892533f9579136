/- SortTolerances of the program. No condition. -/
import Derived.Test.YtfdgeonannkmaaaGreatPodOk
import Derived.Test.YtfdgeonannkmaaaGreatLaySFTolerance
import Derived.Test.YtfdgeonannkmaaaGreatCompTolerance
import Derived.Test.YtfdgeonannkmaaaGreatClone
import Derived.Test.YtfdgeonannkmaaaGreatNeedLess
import Derived.Test.YtfdgeonannkmaaaGreatVarP
import Derived.Test.YtfdgeonannkmaaaGreatStabM
import Derived.Test.YtfdgeonannkmaaaGreatSz
import Derived.Test.YtfdgeonannkmaaaGreatStabGL
import Derived.Test.YtfdgeonannkmaaaGreatRowE
import Derived.Test.YtfdgeonannkmaaaGreatInsK
import Derived.Test.YtfdgeonannkmaaaGreatAt
import Derived.Test.YtfdgeonannkmaaaGreatLaw0
import Derived.Test.YtfdgeonannkmaaaGreatMwTolerance
namespace Go.Proofs.YtfdgeonannkmaaaGreat
open Go.ChangeShapes Go.WideShapes Go.ChangeAt Go.RowKit
set_option linter.unusedVariables false
set_option linter.unusedSimpArgs false
set_option maxRecDepth 100000 in
set_option maxHeartbeats 2000000 in
theorem SortTolerances_impl (xs:List bH) (A:Option Addr) (c:Nat) (F:List Nat) (w:World) (h:Sl w xs A c F) (hl:(xs.length:Int)≤1048576) (hsm:∀l∈xs,(l.key.size:Int)≤1048576∧(l.value.size:Int)≤1048576) :
 Calls Tryz.prog 92 #[.slice A xs.length c] w fun e w'=>∃A' c' G,e = .returned (.tuple #[.slice A' (sortTolsR xs).1.length c',.bool (sortTolsR xs).2])∧Own w' w.heap.size (sortTolsR xs).1 [.slice A' (sortTolsR xs).1.length c'] G∧Below w.heap.size w w':=by
 have Eo:=Lib.hid hsm
 clear hsm
 by_cases h40:xs.length≤40
 ·go_enter Tryz.func92,Tryz.ntmps92
  go_wp2_with fail
  refine (aap xs A c F w h hl).mono ?_
  rintro e w1 ⟨A1,c1,F1,rfl,jX,hb1⟩
  go_wp2_with fail
  refine (sortTolerance xs A1 c1 F1 w1 w.heap.size jX hb1.size hl).mono ?_
  rintro e w2 ⟨rfl,ys,F2,hp,hs,hO2,hb2⟩
  have hlen:ys.length = xs.length:=hp.length_eq
  have hu:=kept_uniq totTol neTolerance_iff hp hs
  have hc2:=compTolerance ys A1 c1 F2 w2 w.heap.size (by rw [hlen];exact hO2) (Nat.le_trans hb1.size (hb2.mono (Nat.le_refl _)).size) (by rw [hlen];exact hl)
  rw [hlen] at hc2 hu
  have HU:=Lib.hid hu
  have HC:=Lib.hid hc2
  have HB2:=Lib.hid (show Below w.heap.size w w2 from hb1.trans hb2)
  clear hs hp hO2 hb1 hb2 jX hlen hu hc2
  go_wp2_with fail
  refine HC.out.mono ?_
  rw [HU.out]
  rintro e w3 ⟨F3,rfl,hO3,hb3⟩
  have HB3:=Lib.hid (show Below w.heap.size w w3 from HB2.out.trans hb3)
  have HO3:=Lib.hid hO3
  have hlu:((uniqL vJ [] xs).length:Int)≤1048576:=by have:=uniqL_len vJ xs [];simp at this;omega
  have HOK:=Lib.hid (RH (uniqL vJ [] xs) _ _ _ _ w3 hO3.rd rfl hlu (fun l hl=>Eo.out l (uniqTolerance_mem hl)))
  clear hb3 hO3 HC HU HB2
  cases hr:Ya (uniqL vJ [] xs) with
  | true =>
    have HR:=Lib.hid (sortTolsR_yes h40 hr)
    have HRR:=Lib.hid hr
    clear hr
    go_wp2_with fail
    refine HOK.out.mono ?_
    rw [HRR.out]
    rintro e w4 ⟨rfl,hb4⟩
    have HB4:=Lib.hid hb4
    clear hb4
    go_wp2
    go_ret2
    exact ⟨A1,c1,F3,by rw [HR.out];try rfl,by rw [HR.out];exact HO3.out.ext HB4.out,HB3.out.trans (HB4.out.mono HB3.out.size)⟩
  | false =>
    have HR:=Lib.hid (sortTolsR_no hr)
    have HRR:=Lib.hid hr
    clear hr
    go_wp2_with fail
    refine HOK.out.mono ?_
    rw [HRR.out]
    rintro e w4 ⟨rfl,hb4⟩
    have HB4:=Lib.hid (show Below w.heap.size w w4 from HB3.out.trans (hb4.mono HB3.out.size))
    clear hb4
    go_wp2_with fail
    refine (aap xs A c F w4 (h.ext HB4.out) hl).mono ?_
    exact Zab4
 ·have HR:=Lib.hid (sortTolsR_long h40)
  go_enter Tryz.func92,Tryz.ntmps92
  go_wp2_with fail
  refine (aap xs A c F w h hl).mono ?_
  exact Zacp
end Go.Proofs.YtfdgeonannkmaaaGreat
namespace Go.Proofs.YtfdgeonannkmaaaGreat
open Go.ChangeShapes Go.WideShapes Go.ChangeAt Go.RowKit
set_option linter.unusedVariables false
set_option linter.unusedSimpArgs false
def labCv (x y:Label):Int:=Lib.compareBytes x.key.data.toList y.key.data.toList
theorem labWeak:Weak (kS labCv):=(cpKey.at Label.key).weak
def sortLabelsR (xs:List Label):List Label × Bool:=if sD (sortB (kS labCv) [] xs) = true then (sortB (kS labCv) [] xs,true) else (xs,false)
theorem sortLabelsR_yes {xs:List Label} (h:sD (sortB (kS labCv) [] xs) = true):sortLabelsR xs = (sortB (kS labCv) [] xs,true):=if_pos h
theorem sortLabelsR_no {xs:List Label} (h:sD (sortB (kS labCv) [] xs) = false):sortLabelsR xs = (xs,false):=if_neg (by rw [h];simp)
theorem sortL_mem {lt:Label→Label→Bool} {z:Label} : ∀(ys acc:List Label),z∈sortB lt acc ys→z∈acc∨z∈ys
 | [],acc,h=>.inl h
 | y :: ys,acc,h=>by
   rw [sortB] at h
   rcases sortL_mem ys _ h with h | h
   ·rw [xK] at h
    rcases MK h with h | h
    ·exact .inl h
    ·rw [List.mem_singleton.1 h];exact .inr (List.mem_cons_self ..)
   ·exact .inr (List.mem_cons_of_mem _ h)
theorem sortLab_mem {xs:List Label} {z:Label} (h:z∈sortB (kS labCv) [] xs):z∈xs:=by
 rcases sortL_mem xs [] h with h | h
 ·cases h
 ·exact h
theorem sortLab_len (xs:List Label):(sortB (kS labCv) [] xs).length = xs.length:=by rw [rD];simp
theorem insB_sum {lt:Label→Label→Bool} (f:Label→Nat) (y:Label):∀r:List Label,((OM lt y r).map f).sum = f y+(r.map f).sum
 | []=>by simp [OM]
 | x :: r=>by
   have:=insB_sum (lt:=lt) f y r
   unfold OM
   split <;> simp only [List.map_cons,List.sum_cons] <;> omega
theorem sortB_sum {lt:Label→Label→Bool} (f:Label→Nat):∀xs acc:List Label,((sortB lt acc xs).map f).sum = (acc.map f).sum+(xs.map f).sum
 | [],_=>by simp [sortB]
 | x :: xs,acc=>by
   have h1:=sortB_sum (lt:=lt) f xs (OM lt x acc)
   have h2:=insB_sum (lt:=lt) f x acc
   rw [sortB,h1,h2]
   simp only [List.map_cons,List.sum_cons];omega
theorem sortLabelsR_wt (xs:List Label):kL Label.wt (sortLabelsR xs).1 = kL Label.wt xs:=by
 have h:=sortB_sum (lt:=kS labCv) Label.wt xs []
 have hl:=sortLab_len xs
 unfold sortLabelsR kL
 split
 ·dsimp only
  simp only [List.map_nil,List.sum_nil] at h;omega
 ·rfl
end Go.Proofs.YtfdgeonannkmaaaGreat
namespace Go.Proofs.YtfdgeonannkmaaaGreat
open Go.ChangeShapes Go.WideShapes Go.ChangeAt Go.RowKit
set_option linter.unusedVariables false
set_option linter.unusedSimpArgs false
def podN (x:nI):nI:=⟨x.name,(sortLabelsR x.labels).1,x.cpu,x.mem,x.rank,(sortNeedsR x.needs).1,(sortTolsR x.tolerances).1⟩
def podNormalR (x:nI):nI × Bool:=if (sortLabelsR x.labels).2 = true∧(sortNeedsR x.needs).2 = true∧(sortTolsR x.tolerances).2 = true∧GU (podN x) = true then (podN x,true) else (x,false)
theorem podN_wt (x:nI):(podN x).wt≤x.wt:=by
 have h1:=sortLabelsR_wt x.labels
 have h2:=sortNeedsR_wt x.needs
 have h3:=sortTolsR_wt x.tolerances
 unfold podN nI.wt
 dsimp only
 omega
theorem podNormalR_wt (x:nI):(podNormalR x).1.wt≤x.wt:=by
 unfold podNormalR
 split
 ·exact podN_wt x
 ·exact Nat.le_refl _
end Go.Proofs.YtfdgeonannkmaaaGreat
namespace Go.Proofs.YtfdgeonannkmaaaGreat
open Go.ChangeShapes Go.WideShapes Go.ChangeAt Go.RowKit
set_option linter.unusedVariables false
set_option linter.unusedSimpArgs false
set_option maxRecDepth 100000 in
theorem labClo (x y:Label) (w:World):Calls Tryz.prog 140 #[.agg #[.string x.key,.string x.value],.agg #[.string y.key,.string y.value]] w fun e w'=>e = .returned (.int .i64 (labCv x y))∧Below w.heap.size w w':=by
 go_enter Tryz.func140,Tryz.ntmps140
 go_wp2_with fail
 refine (N8 x.key y.key _).mono ?_
 rintro e w2 ⟨rfl,rfl⟩
 go_wp2
 go_ret
 exact ⟨rfl,ak (ak (aj _) _) _⟩
theorem lab_cs {w:World} {x:Label} {cs:List Value} {F:List Nat} (h:rd w x cs F):cs = lrow x:=(vO h).1
theorem lab_stab {w:World} {B g o:Nat} {D:List (El Label)} (R:RowE w B g o D):jJ lrow 2 w w g o (D.map El.x):=by
 refine ⟨fun k x hk j u hj=>?_,R.plain g (List.mem_cons_self ..),.refl _ _⟩
 rw [List.getElem?_map] at hk
 cases he:D[k]? with
 | none=>rw [he] at hk;cases hk
 | some e =>
   rw [he] at hk
   simp only [Option.map_some,Option.some.injEq] at hk
   subst hk
   exact R.tab k e he j u (by rw [lab_cs (R.rd e (List.mem_of_getElem? he))];exact hj)
theorem lab_own {w w':World} {B g o c:Nat} {D:List (El Label)} {ys:List Label} (R:RowE w B g o D) (h:jJ lrow 2 w w' g o ys) (hm:∀y∈ys,y∈D.map El.x) (hc:ys.length≤c) (hx:c≤maxLen):Own w' B ys [.slice (some ⟨g,o,none⟩) ys.length c] [g]:=by
 have hF:∀l:List Label,(l.map fun y=>(⟨y,lrow y,[]⟩:El Label)).flatMap El.F = []:=fun l=>by
  induction l with
  | nil=>rfl
  | cons a l ih=>rw [List.map_cons,List.flatMap_cons,ih];rfl
 have hX:∀l:List Label,(l.map fun y=>(⟨y,lrow y,[]⟩:El Label)).map El.x = l:=fun l=>by rw [List.map_map];exact List.map_id l
 have R':RowE w' B g o (ys.map fun y=>(⟨y,lrow y,[]⟩:El Label)):=by
  refine ⟨fun e he=>?_,by rw [hF];simp,fun b hb=>?_,fun b hb=>?_,fun k e hk j u hj=>?_⟩
  ·obtain ⟨y,hy,rfl⟩:=List.mem_map.1 he
   obtain ⟨e',he',rfl⟩:=List.mem_map.1 (hm y hy)
   obtain ⟨h1,h2,h3,h4⟩:=vO (R.rd e' he')
   exact alH w' e'.x h3 h4
  ·rw [hF] at hb
   rw [List.mem_singleton.1 hb];exact R.base g (List.mem_cons_self ..)
  ·rw [hF] at hb
   rw [List.mem_singleton.1 hb];exact h.plain
  ·rw [List.getElem?_map] at hk
   cases hy:ys[k]? with
   | none=>rw [hy] at hk;cases hk
   | some y =>
     rw [hy] at hk
     simp only [Option.map_some,Option.some.injEq] at hk
     subst hk
     exact h.tab k y hy j u hj
 have:=R'.own (c:=c) (by rw [List.length_map];exact hc) hx
 rw [hX,hF] at this
 exact this
theorem labSort (xs:List Label) (A:Option Addr) (c:Nat) (F:List Nat) (w:World) (B:Nat) (h:Own w B xs [.slice A xs.length c] F) (hB:B≤w.heap.size) (hl:(xs.length:Int)≤1048576) :
 Calls Tryz.prog 139 #[.slice A xs.length c,.func (.func 140) #[] #[]] w fun e w'=>e = .returned (.tuple #[])∧∃F',Own w' B (sortB (kS labCv) [] xs) [.slice A xs.length c] F'∧Below B w w':=by
 by_cases hne:xs = []
 ·subst hne
  refine (SortStableL_nil w A c _).mono ?_
  rintro e w' ⟨rfl,rfl⟩
  exact ⟨rfl,F,h,.refl _ _⟩
 ·have hcap:=Sl.cap (α:=Label) h.rd
  obtain ⟨g,o,D,rfl,rfl,rfl,R⟩:=h.rowE hne
  refine (SortStableL_any w w g o c _ (D.map El.x) labCv (lab_stab R) rfl (by omega) labWeak (fun x y w2 _=>labClo x y w2)).mono ?_
  rintro e w' ⟨rfl,hS⟩
  have:=lab_own (c:=c) R hS (fun y hy=>sortLab_mem hy) (by rw [sortLab_len];exact hcap.1) hcap.2
  rw [sortLab_len] at this
  exact ⟨rfl,[g],this,hS.upd.below (fun b hb=>by rw [List.mem_singleton.1 hb];exact R.base g (List.mem_cons_self ..)) hB⟩
set_option maxRecDepth 100000 in
set_option maxHeartbeats 2000000 in
theorem SortLabels_impl (xs:List Label) (A:Option Addr) (c:Nat) (F:List Nat) (w:World) (h:Sl w xs A c F) (hl:(xs.length:Int)≤1048576) (hsm:∀l∈xs,(l.key.size:Int)≤1048576∧(l.value.size:Int)≤1048576) :
 Calls Tryz.prog 90 #[.slice A xs.length c] w fun e w'=>∃A' c' G,e = .returned (.tuple #[.slice A' (sortLabelsR xs).1.length c',.bool (sortLabelsR xs).2])∧Own w' w.heap.size (sortLabelsR xs).1 [.slice A' (sortLabelsR xs).1.length c'] G∧Below w.heap.size w w':=by
 have Eo:=Lib.hid hsm
 clear hsm
 go_enter Tryz.func90,Tryz.ntmps90
 go_wp2_with fail
 refine (Xo xs A c F w h hl).mono ?_
 rintro e w1 ⟨A1,c1,F1,rfl,jX,hb1⟩
 go_wp2_with fail
 refine (labSort xs A1 c1 F1 w1 w.heap.size jX hb1.size hl).mono ?_
 rintro e w2 ⟨rfl,F2,hO2,hb2⟩
 have HB2:=Lib.hid (show Below w.heap.size w w2 from hb1.trans hb2)
 have RZ:=Lib.hid hO2
 have HOK:=Lib.hid (Jv (sortB (kS labCv) [] xs) A1 xs.length c1 F2 w2 (by unfold Sl;rw [sortLab_len];exact hO2.rd) (sortLab_len xs).symm (by rw [sortLab_len];exact hl) (fun l hl=>Eo.out l (sortLab_mem hl)))
 clear hb1 hb2 jX hO2
 cases hr:sD (sortB (kS labCv) [] xs) with
 | true =>
   have HR:=Lib.hid (sortLabelsR_yes hr)
   have HRR:=Lib.hid hr
   clear hr
   go_wp2_with fail
   refine HOK.out.mono ?_
   rw [HRR.out]
   rintro e w4 ⟨rfl,hb4⟩
   have HB4:=Lib.hid hb4
   clear hb4
   go_wp2
   go_ret2
   exact ⟨A1,c1,F2,by rw [HR.out,sortLab_len];try rfl,by rw [HR.out,sortLab_len];exact RZ.out.ext HB4.out,HB2.out.trans (HB4.out.mono HB2.out.size)⟩
 | false =>
   have HR:=Lib.hid (sortLabelsR_no hr)
   have HRR:=Lib.hid hr
   clear hr
   go_wp2_with fail
   refine HOK.out.mono ?_
   rw [HRR.out]
   rintro e w4 ⟨rfl,hb4⟩
   have HB4:=Lib.hid (show Below w.heap.size w w4 from HB2.out.trans (hb4.mono HB2.out.size))
   clear hb4
   go_wp2_with fail
   refine (Xo xs A c F w4 (h.ext HB4.out) hl).mono ?_
   exact Zab4
end Go.Proofs.YtfdgeonannkmaaaGreat
namespace Go.Proofs.YtfdgeonannkmaaaGreat
open Go.ChangeShapes Go.WideShapes Go.ChangeAt Go.RowKit
set_option linter.unusedVariables false
set_option linter.unusedSimpArgs false
theorem Own.joinA {α β:Type} [Dat α] [Dat β] {w:World} {B:Nat} {x:α} {y:β} {c1 c2:List Value} {F1 F2:List Nat} (h1:Own w B x c1 F1) (h2:Own w B y c2 F2) (hd:∀b∈F1,b∉F2):Own w B (x,y) (c1++c2) (F1++F2):=by
 refine ⟨⟨c1,c2,F1,F2,rfl,rfl,h1.rd,h2.rd⟩,?_,?_,?_⟩
 ·rw [List.nodup_append]
  exact ⟨h1.nodup,h2.nodup,fun a ha b hb e=>hd a ha (e ▸ hb)⟩
 ·intro b hb
  rcases List.mem_append.1 hb with hb | hb
  ·exact h1.base b hb
  ·exact h2.base b hb
 ·intro b hb
  rcases List.mem_append.1 hb with hb | hb
  ·exact h1.plain b hb
  ·exact h2.plain b hb
theorem Own.partsA {w:World} {B:Nat} {x:aU} {Ah Ap:Option Addr} {nh ch np cp:Nat} {n p q f:Int} {G:List Nat} (h:Own w B x [.slice Ah nh ch,.slice Ap np cp,.int .i64 n,.int .i64 p,.int .i64 q,.int .i64 f] G) :
 ∃Gh Gp,Own w B x.hosts [.slice Ah nh ch] Gh∧Own w B x.au [.slice Ap np cp] Gp∧(∀y∈Gh,y∉Gp)∧(∀y∈Gh,y∈G)∧(∀y∈Gp,y∈G):=by
 obtain ⟨⟨c1,c2,F1,F2,e1,rfl,hh,d1,d2,G1,G2,e3,rfl,hp,g1,g2,H1,H2,e5,e6,⟨e7,e8,hn⟩,hwt⟩,hnd,hb,hpl⟩:=h
 obtain ⟨A,c,rfl,_⟩:=jB hh
 obtain ⟨A2,c2',rfl,_⟩:=jB hp
 subst e7 e5 e3
 simp only [List.cons_append,List.nil_append,List.cons.injEq] at e1
 obtain ⟨ea,eb,_⟩:=e1
 rw [List.nodup_append,List.nodup_append] at hnd
 refine ⟨F1,G1,⟨by rw [ea];exact hh,hnd.1,fun y hy=>hb y (by simp [hy]),fun y hy=>hpl y (by simp [hy])⟩,⟨by rw [eb];exact hp,hnd.2.1.1,fun y hy=>hb y (by simp [hy]),fun y hy=>hpl y (by simp [hy])⟩,fun y hy hy'=>hnd.2.2 y hy y (by simp [hy']) rfl,fun y hy=>by simp [hy],fun y hy=>by simp [hy]⟩
theorem Own.wholeA {w:World} {B:Nat} {H:List Host} {Q:List Placed} {Ah Ap:Option Addr} {nh ch np cp:Nat} {n p q f:Int} {Gh Gp:List Nat} (h:Own w B H [.slice Ah nh ch] Gh) (k:Own w B Q [.slice Ap np cp] Gp) (hd:∀y∈Gh,y∉Gp) (hn:I64 n) (hp:I64 p) (hq:I64 q) (hf:I64 f) :
 Own w B (⟨H,Q,n,⟨p,q,f⟩⟩:aU) [.slice Ah nh ch,.slice Ap np cp,.int .i64 n,.int .i64 p,.int .i64 q,.int .i64 f] (Gh++Gp):=by
 refine Own.up (B':=B) (fun x:aU=>(x.hosts,x.au,x.next,x.weights)) ?_ (Nat.le_refl _)
 have h5:Own w B (⟨p,q,f⟩:rZ) ([.int .i64 p]++([.int .i64 q]++[.int .i64 f])) []:=by
  refine Own.up (B':=B) (fun x:rZ=>(x.pack,x.spread,x.soft)) ?_ (Nat.le_refl _)
  exact Own.cons (jL w p hp) (Own.cons (jL w q hq) (Own.flat (jL w f hf)))
 have h6:=Own.cons (jL w n hn) h5
 have h7:=Own.joinA h (Own.joinA k h6 (fun b _ hb=>by cases hb)) (fun b hb hb'=>hd b hb (by simpa using hb'))
 simpa using h7
theorem wp_append0 {P:Program} {t e:TypeId} {z:Value} {size bytes:Nat} (hE:DL P t e z size bytes) {o:Oper} {a:Act} {K:Act→World→Prop} {Q:Exit→Act→World→Prop} (s x:Operand)
 (ho:o.op = .call { callee:=.builtin .append,args:=#[s,x],argTypes:=#[t,t] })
 (w:World) (base:Nat) (v:Value) (n:Nat) (xs:List Value) (hown:w.ownsRow base e size v n xs) (hs:a.eval s = v) (c:Nat) (hx:a.eval x = .slice none 0 c)
 (h:∀v' w',w'.ownsRow base e size v' (n+0) (xs++[])→w.grownBy w' v.ownBlock→(v'.ownBlock = v.ownBlock∨v'.ownBlock = some w.heap.size)→K (a.put o.dst v') w'):o.wp P a w K Q:=by
 obtain ⟨ht,hi0,hzs,hsz⟩:=hE
 obtain ⟨i,hi,hz,hsize,hb⟩:=info_parts hi0
 have fin:∀(A2:Option Addr) (cap:Nat),v = .slice A2 n cap→n≤cap→o.wp P a w K Q:=by
  intro A2 cap hv hle
  have hr:=run_append_nothing (P:=P) w t t o.type e i ht hi A2 n cap hle (.slice none 0 c) (Src.ofNil w ht c)
  unfold Oper.wp execOp
  simp only [ho,resolve,invoke,builtin,Sem.run_bind,Sem.run_pure,Result.andThen_ok,List.map_toArray,List.map_cons,List.map_nil,hs,hv,hx,hr]
  subst hv
  exact h _ w (by simpa using hown) ⟨rfl,rfl,rfl,Nat.le_refl _,fun _ _ _=>rfl⟩ (.inl rfl)
 rcases hown.2 with ⟨hv,hn0⟩ | ⟨g,cap,cur,hv,_,_,hle,_⟩
 ·exact fin none 0 (by rw [hv,hn0]) (by omega)
 ·exact fin _ cap hv hle
theorem wpList_append0 {P:Program} {t e:TypeId} {z:Value} {size bytes:Nat} (hE:DL P t e z size bytes) {ops:Array Oper} {rest:List Oper} {o:Oper} {a:Act} {Q:Exit→Act→World→Prop} (hgd:o.guard = none) (s x:Operand)
 (ho:o.op = .call { callee:=.builtin .append,args:=#[s,x],argTypes:=#[t,t] })
 (w:World) (base:Nat) (v:Value) (n:Nat) (xs:List Value) (hown:w.ownsRow base e size v n xs) (hs:a.eval s = v) (c:Nat) (hx:a.eval x = .slice none 0 c)
 (h:∀v' w',w'.ownsRow base e size v' (n+0) (xs++[])→w.grownBy w' v.ownBlock→(v'.ownBlock = v.ownBlock∨v'.ownBlock = some w.heap.size)→wpList P ops Q rest (a.put o.dst v') w'):wpList P ops Q (o :: rest) a w :=
 wpList_plain hgd fun K hK=>wp_append0 hE s x ho w base v n xs hown hs c hx fun v' w' h1 h2 h3=>hK _ _ (h v' w' h1 h2 h3)
theorem ownNeA {α:Type} [Dat α] {w:World} {B c i:Nat} {u:Value} {x:α} {cs:List Value} {F:List Nat} (h:Own w B x cs F) (hF:∀y∈F,y≠c):Own (w.setCell ⟨c,i,none⟩ u) B x cs F :=
 h.keep (fun y hy=>Below.heap_setCell _ _ _ _ avg) aua
theorem cntL_insAt {α:Type} {cnt:α→Nat} (i:Nat) (x:α) (xs:List α):cO cnt (insAt i x xs) = cO cnt xs+cnt x:=by
 have:=XP (cnt:=cnt) (xs.take i) (xs.drop i)
 rw [List.take_append_drop] at this
 unfold insAt
 rw [XP,cO]
 omega
end Go.Proofs.YtfdgeonannkmaaaGreat
namespace Go.Proofs.YtfdgeonannkmaaaGreat
open Go.ChangeShapes Go.WideShapes Go.ChangeAt Go.RowKit
set_option linter.unusedVariables false
set_option linter.unusedSimpArgs false
def podLt (nm:ByteArray) (h:Placed):Bool:=Op.bytesLess h.aS.name.toList nm.toList
def insPx (nm:ByteArray) (xs:List Placed):Nat:=(xs.takeWhile (podLt nm)).length
theorem insPx_le (nm:ByteArray) (xs:List Placed):insPx nm xs≤xs.length:=by
 unfold insPx
 induction xs with
 | nil=>simp
 | cons a l ih=>rw [List.takeWhile_cons];split <;> simp <;> omega
theorem insPx_lt {nm:ByteArray} : ∀{xs:List Placed} {k:Nat},k < insPx nm xs→∀(hk:k < xs.length),podLt nm xs[k] = true
 | [],_,h,hk=>absurd hk (by simp)
 | a :: l,0,h,hk=>by
   unfold insPx at h
   rw [List.takeWhile_cons] at h
   split at h
   ·rename_i h2;simpa using h2
   ·simp at h
 | a :: l,k+1,h,hk=>by
   unfold insPx at h
   rw [List.takeWhile_cons] at h
   split at h
   ·simp only [List.getElem_cons_succ]
    exact insPx_lt (xs:=l) (by unfold insPx;simpa using h) (by simpa using hk)
   ·simp at h
theorem insPx_at {nm:ByteArray} : ∀{xs:List Placed} (hk:insPx nm xs < xs.length),podLt nm xs[insPx nm xs] = false
 | [],hk=>absurd hk (by simp)
 | a :: l,hk=>by
   by_cases h:podLt nm a = true
   ·have e:insPx nm (a :: l) = insPx nm l+1:=by unfold insPx;rw [List.takeWhile_cons,if_pos h];rfl
    have:=insPx_at (nm:=nm) (xs:=l) (by rw [e] at hk;simpa using hk)
    simp only [e,List.getElem_cons_succ]
    exact this
   ·have e:insPx nm (a :: l) = 0:=by unfold insPx;rw [List.takeWhile_cons,if_neg h];rfl
    simp only [e,List.getElem_cons_zero]
    simpa using h
theorem insPx_of {nm:ByteArray} {xs:List Placed} {k:Nat} (h1:k≤insPx nm xs) (h2:∀hk:k < xs.length,podLt nm xs[k] = false):k = insPx nm xs:=by
 have:=insPx_le nm xs
 by_cases h:k < insPx nm xs
 ·have h3:=insPx_lt h (by omega)
  rw [h2 (by omega)] at h3;cases h3
 ·omega
def newP (x:aU) (n:nI):Placed:=⟨n,⟨#[]⟩,x.next⟩
theorem clusterR_next {x:aU} (h:iI x = true):1≤x.next∧x.next≤1000000000:=by
 unfold iI Em at h
 simp only [Bool.and_eq_true,decide_eq_true_eq] at h
 exact h.1.2.2.1
def addQ (x:aU) (u:nI):aU × Int :=
 if iI x = true∧(podNormalR u).2 = true then (if 0≤pK (CG (podNormalR u).1.name) x.au then (x,2) else if 12≤x.au.length∨1000000000≤x.next then (x,4) else (⟨x.hosts,insAt (insPx (podNormalR u).1.name x.au) (newP x (podNormalR u).1) x.au,x.next+1,x.weights⟩,0)) else (x,1)
theorem addQ_cnt (x:aU) (u:nI):iw (addQ x u).1≤iw x+jh (newP x (podNormalR u).1):=by
 unfold addQ
 split
 ·split
  ·exact Nat.le_add_right _ _
  ·split
   ·exact Nat.le_add_right _ _
   ·have h1:=cntL_insAt (cnt:=jh) (insPx (podNormalR u).1.name x.au) (newP x (podNormalR u).1) x.au
    simp only [iw] at h1 ⊢
    omega
 ·exact Nat.le_add_right _ _
theorem Own.newP {w:World} {B:Nat} {x:aU} {n:nI} {cs:List Value} {G:List Nat} (h:Own w B n cs G) (hn:I64 x.next):Own w B (newP x n) (cs++[.string ⟨#[]⟩,.int .i64 x.next]) G:=by
 have h5:Own w B ((⟨#[]⟩:ByteArray),x.next) ([.string ⟨#[]⟩]++[.int .i64 x.next]) []:=Own.cons (rdStr w ⟨#[]⟩ (rV (Nat.zero_le _))) (Own.flat (jL w x.next hn))
 have h6:=Own.joinA h h5 (fun _ _ hb=>by cases hb)
 rw [List.append_nil] at h6
 exact Own.up (B':=B) (fun x:Placed=>(x.aS,x.on,x.seq)) h6 (Nat.le_refl _)
end Go.Proofs.YtfdgeonannkmaaaGreat
