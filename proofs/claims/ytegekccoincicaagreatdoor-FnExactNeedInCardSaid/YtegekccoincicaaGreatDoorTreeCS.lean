/- l08Copy, of the reference. No condition. -/
import Derived.Test.YtegekccoincicaaGreatDoorTreeC
import Derived.Test.YtegekccoincicaaGreatDoorRegionCut
namespace Go.Proofs.YtegekccoincicaaGreatDoor
open Dat (rd)
open Go.ChangeShapes Go.WideShapes Go.ChangeAt Go.RowKit
set_option linter.unusedVariables false
set_option linter.unusedSimpArgs false


/-- a copying call's state: the argument's box, the result's, and the box of what is made; all else is new -/
structure Cc (w wk : World) (cs zs os : List Value) : Prop where
  box : Blk wk w.heap.size cs
  rb : Blk wk (w.heap.size + 1) zs
  ob : Blk wk (w.heap.size + 1 + 1) os
  below : Below w.heap.size w wk
section
variable {w wk w' : World} {cs zs os : List Value}
theorem Cc.new (w : World) (cs zs os : List Value) (t : TypeId) : Cc w (((w.alloc (.cells cs.toArray t)).alloc (.cells zs.toArray t)).alloc (.cells os.toArray t)) cs zs os :=
  have h := (Cp.new w cs zs t t).ext (ext_alloc (ext_refl _) (.cells os.toArray t))
  ⟨h.box, h.rb, (by have := Blk.new ((w.alloc (.cells cs.toArray t)).alloc (.cells zs.toArray t)) os t; rw [World.size_alloc, World.size_alloc] at this; exact this), h.below⟩
theorem Cc.ext (h : Cc w wk cs zs os) (hb : Below wk.heap.size wk w') : Cc w w' cs zs os := ⟨h.box.ext hb, h.rb.ext hb, h.ob.ext hb, ext_trans h.below hb⟩
theorem Cc.put (h : Cc w wk cs zs os) (i : Nat) (u : Value) : Cc w (wk.setCell ⟨w.heap.size + 1 + 1, i, none⟩ u) cs zs (os.set i u) := ⟨h.box.far (by omega) i u, h.rb.far (by omega) i u, h.ob.put i u, ext_setCell h.below (by dsimp only; omega) u⟩
theorem Cc.far (h : Cc w wk cs zs os) {c : Nat} (hc : w.heap.size + 1 + 1 < c) (i : Nat) (u : Value) : Cc w (wk.setCell ⟨c, i, none⟩ u) cs zs os := ⟨h.box.far (by omega) i u, h.rb.far (by omega) i u, h.ob.far (by omega) i u, ext_setCell h.below (by dsimp only; omega) u⟩
theorem Cc.lt (h : Cc w wk cs zs os) : w.heap.size + 1 + 1 < wk.heap.size := h.ob.lt
theorem Cc.grown {row : Option Nat} (h : Cc w wk cs zs os) (hg : wk.grownBy w' row) (hr : ∀ q, row = some q → w.heap.size + 1 + 1 < q) : Cc w w' cs zs os :=
  ⟨h.box.keep (hg.block _ h.box.lt (by intro e; have := hr _ e.symm; omega)), h.rb.keep (hg.block _ h.rb.lt (by intro e; have := hr _ e.symm; omega)), h.ob.keep (hg.block _ h.ob.lt (by intro e; have := hr _ e.symm; omega)),
   ⟨hg.os.trans h.below.os, hg.tape.trans h.below.tape, hg.output.trans h.below.output, Nat.le_trans h.below.size hg.size, fun i hi => (hg.block i (by have := h.below.size; omega) (by intro e; have := hr _ e.symm; omega)).trans (h.below.block i hi)⟩⟩
end
theorem Blk.grown {w w' : World} {g : Nat} {cs : List Value} {row : Option Nat} (h : Blk w g cs) (hg : w.grownBy w' row) (hr : ∀ q, row = some q → q ≠ g) : Blk w' g cs := h.keep (hg.block _ h.lt (fun e => hr g e.symm rfl))
theorem Own.grownK {α : Type} [Dat α] {w w' : World} {B B2 : Nat} {x : α} {cs : List Value} {F : List Nat} {row : Option Nat} (h : Own w B x cs F) (hg : w.grownBy w' row) (hF : ∀ y ∈ F, y < B2) (hr : ∀ q, row = some q → B2 ≤ q) : Own w' B x cs F :=
  h.keep (fun y hy => hg.block y (h.lt y hy) (by intro e; have := hr _ e.symm; have := hF y hy; omega)) hg.size

/-- what l08Copy answers -/
def CpTreeS (x : Tree) : Prop := ∀ (cs : List Value) (F : List Nat) (w : World), rd w x cs F → (x.wt : Int) ≤ 1048576 → Calls Tryz.prog 108 #[.agg cs.toArray] w fun e w' => ∃ cs F, e = .returned (.agg cs.toArray) ∧ Own w' w.heap.size x cs F ∧ Below w.heap.size w w'
set_option maxRecDepth 100000 in
set_option maxHeartbeats 8000000 in
theorem l08Copy_step (x : Tree) (ih : ∀ k ∈ x.kids, CpTreeS k) : CpTreeS x := by
  intro cs F w h hw
  have hwt := Tree.wt_eq x
  have hkl : (x.keys.length : Int) ≤ 1048576 := by have := wtL_len ByteArray.size x.keys; omega
  have hcl : (x.kids.length : Int) ≤ 1048576 := by have := wtL_len Tree.wt x.kids; omega
  have HW := Lib.hid (fun k (hk : k < x.kids.length) => (show (Tree.wt x.kids[k] : Int) ≤ 1048576 by have := wtL_get (f := Tree.wt) hk; omega))
  clear hwt hw
  have IH := Lib.hid ih
  clear ih
  obtain ⟨Ak, ck, Fk, Ac, cc, Fc, hck, hF, hkind, hnum, htext, hkeys, hkids⟩ := rd_Tree h
  subst hck
  clear hF h
  replace htext := sz63 (s := x.text) htext
  have S0 := Cc.new w [.int .i64 x.kind, .bool x.flag, .int .i64 x.num, .string x.text, .slice Ak x.keys.length ck, .slice Ac x.kids.length cc] [.int .i64 0, .bool false, .int .i64 0, .string ⟨#[]⟩, .slice none 0 0, .slice none 0 0] [.int .i64 x.kind, .bool x.flag, .int .i64 x.num, .string x.text, .slice Ak x.keys.length ck, .slice Ac x.kids.length cc] 35
  have HM := Lib.hid (row_new (((w.alloc (.cells ([.int .i64 x.kind, .bool x.flag, .int .i64 x.num, .string x.text, .slice Ak x.keys.length ck, .slice Ac x.kids.length cc] : List Value).toArray 35)).alloc (.cells ([.int .i64 0, .bool false, .int .i64 0, .string ⟨#[]⟩, .slice none 0 0, .slice none 0 0] : List Value).toArray 35)).alloc (.cells ([.int .i64 x.kind, .bool x.flag, .int .i64 x.num, .string x.text, .slice Ak x.keys.length ck, .slice Ac x.kids.length cc] : List Value).toArray 35)) 9 1 (w.heap.size + 1 + 1 + 1) (by simp))
  have hks0 := hkeys.ext (show Below w.heap.size w ((((w.alloc (.cells ([.int .i64 x.kind, .bool x.flag, .int .i64 x.num, .string x.text, .slice Ak x.keys.length ck, .slice Ac x.kids.length cc] : List Value).toArray 35)).alloc (.cells ([.int .i64 0, .bool false, .int .i64 0, .string ⟨#[]⟩, .slice none 0 0, .slice none 0 0] : List Value).toArray 35)).alloc (.cells ([.int .i64 x.kind, .bool x.flag, .int .i64 x.num, .string x.text, .slice Ak x.keys.length ck, .slice Ac x.kids.length cc] : List Value).toArray 35)).alloc (.cells #[] 9)) from ext_alloc (ext_alloc (ext_alloc (ext_alloc (ext_refl _) _) _) _) _)
  have HKS := Lib.hid hks0
  clear hks0
  go_enter Tryz.func108, Tryz.ntmps108
  go_wp2_with (
    at_builtin
    refine wpList_appendN (o := ⟨some 9, _, _, _, _, _⟩) elCString (by rfl) (by rfl) _ _ (by rfl) _ (w.heap.size + 1 + 1 + 1) _ 0 [] HM.out (by rfl) x.keys Ak ck _ HKS.out (by rfl) (by omega) (by omega) (by simp) ?_
    intro v1 w1 ds1 E1 hrc1 hsub1 hown1 hg1 hat1
    go_must (obtain ⟨A1, c1, hv1⟩ := row_sliceK hown1)
    go_must (subst hv1)
    go_must (simp only [Nat.zero_add, List.nil_append] at hown1)
    go_must (have hb1 : Below (w.heap.size + 1 + 1 + 1) (((w.alloc (.cells ([.int .i64 x.kind, .bool x.flag, .int .i64 x.num, .string x.text, .slice Ak x.keys.length ck, .slice Ac x.kids.length cc] : List Value).toArray 35)).alloc (.cells ([.int .i64 0, .bool false, .int .i64 0, .string ⟨#[]⟩, .slice none 0 0, .slice none 0 0] : List Value).toArray 35)).alloc (.cells ([.int .i64 x.kind, .bool x.flag, .int .i64 x.num, .string x.text, .slice Ak x.keys.length ck, .slice Ac x.kids.length cc] : List Value).toArray 35)) w1 := grown_ext HM.out hg1 ((Below.refl _ _).alloc (by simp) _) (by simp))
    go_must (have S1 := Cc.ext S0 (hb1.mono (by simp)))
    go_must (have hrd1 : rdCells w1 x.keys ds1 E1 := hrc1.frame (fun b hb => hg1.block b (hrc1.lt b hb) (fun e => by have h1 := hkeys.lt b (hsub1 b hb); simp [Value.ownBlock] at e; omega)) hg1.size)
    go_must (obtain ⟨A0, c0, G1, hv0, hO1⟩ := Own.of_flat flatString hown1 hrd1)
    go_must (simp only [Value.slice.injEq, true_and] at hv0)
    go_must (obtain ⟨rfl, rfl⟩ := hv0)
    go_must (have f1 := S1.ob.fz 4)
    go_must (have u1 := S1.ob.cell (i := 4) (u := .slice Ak x.keys.length ck) rfl)
    go_must (have l1 := S1.ob.lt)
    go_must (have f5 := S1.ob.fz 5)
    go_must (have u5 := S1.ob.cell (i := 5) (u := .slice Ac x.kids.length cc) rfl)
    go_must (have hz1 := hb1.size)
    go_must (clear hown1 hrc1 hrd1 hg1 hat1))
  obtain ⟨wa, hwa⟩ : ∃ wa, w1.setCell ⟨w.heap.size + 1 + 1, 4, none⟩ (.slice A1 x.keys.length c1) = wa := ⟨_, rfl⟩
  have S2 := S1.put 4 (.slice A1 x.keys.length c1)
  have hOK := hO1.setCell (p := ⟨w.heap.size + 1 + 1, 4, none⟩) (by dsimp only; omega) (.slice A1 x.keys.length c1)
  have hzw : wa.heap.size = w1.heap.size := by rw [← hwa]; simp [World.setCell]
  rw [hwa] at S2 hOK
  rw [hwa]
  have hG1 : ∀ y ∈ G1, y < wa.heap.size := hOK.lt
  have hl2 := S2.lt
  have S3 := (S2.put 5 (.slice (some ⟨wa.heap.size, 0, none⟩) 0 0)).ext (ext_alloc (ext_refl _) (.cells #[] 35))
  have hrow3 := row_new (wa.setCell ⟨w.heap.size + 1 + 1, 5, none⟩ (.slice (some ⟨wa.heap.size, 0, none⟩) 0 0)) 35 6 wa.heap.size (by simp [World.setCell])
  have hOK3 := (hOK.setCell (p := ⟨w.heap.size + 1 + 1, 5, none⟩) (by dsimp only; omega) (.slice (some ⟨wa.heap.size, 0, none⟩) 0 0)).alloc (.cells #[] 35)
  have hB43 : w.heap.size + 1 + 1 + 1 ≤ wa.heap.size := by omega
  have hn0 : w1.heap.size = wa.heap.size := hzw.symm
  have HZW := Lib.hid hn0
  obtain ⟨B4, hB4⟩ : ∃ B4, wa.heap.size = B4 := ⟨_, rfl⟩
  try rw [hn0]
  rw [hB4] at hG1 hrow3 S3 hOK3 hB43
  try rw [hB4]
  have HG4 := Lib.hid hG1
  clear S0 S1 S2 hO1 hOK hl2 hG1 hn0 hzw hsub1 HM HKS
  go_loopw [4] (fun i wr => ∃ (k : Nat) (ds : List Value) (F' : List Nat) (v : Value), k ≤ x.kids.length ∧ i = .int .i64 k ∧ wr.ownsRow B4 35 6 v k ds ∧ OwnCells wr B4 (x.kids.take k) ds F' ∧ (∀ g, v.ownBlock = some g → g ∉ F') ∧ Own wr (w.heap.size + 1 + 1 + 1) x.keys [.slice A1 x.keys.length c1] G1 ∧ Cc w wr [.int .i64 x.kind, .bool x.flag, .int .i64 x.num, .string x.text, .slice Ak x.keys.length ck, .slice Ac x.kids.length cc] [.int .i64 0, .bool false, .int .i64 0, .string ⟨#[]⟩, .slice none 0 0, .slice none 0 0] [.int .i64 x.kind, .bool x.flag, .int .i64 x.num, .string x.text, .slice A1 x.keys.length c1, v] ∧ B4 ≤ wr.heap.size) (fun i _ => x.kids.length - (intOf i).toNat)
  case atStart => exact ⟨0, [], [], .slice (some ⟨B4, 0, none⟩) 0 0, Nat.zero_le _, rfl, hrow3, OwnCells.nil _ _, (fun g _ hm => by cases hm), hOK3, S3, by simp [World.setCell]; omega⟩
  case round =>
    obtain ⟨k, ds, F', v, hk, rfl, hown, hO, hne, hOK, hS, hBr⟩ := hrel
    clear hrow3 S3 hOK3
    by_cases hlt : k < x.kids.length
    · obtain ⟨b, o, ck1, Fk1, rfl, hbF, hbs, hr, hsub, hc⟩ := Sl.get (α := Tree) hkids hlt
      have hr0 := hr
      obtain ⟨Ak1, ck1, Fk1, Ac1, cc1, Fc1, hck, hF1, hkind1, hnum1, htext1, hkeys1, hkids1⟩ := rd_Tree hr
      subst hck
      clear hF1 hr
      have p0 : w.cell? ⟨b, o + k * 6, none⟩ = some (.int .i64 x.kids[k].kind) := by exact hc 0 _ rfl
      have q0 := ((bcell hS.below).1 b _ hbs).trans p0
      have p1 : w.cell? ⟨b, o + k * 6 + 1, none⟩ = some (.bool x.kids[k].flag) := by rw [Nat.add_assoc]; exact hc 1 _ rfl
      have q1 := ((bcell hS.below).1 b _ hbs).trans p1
      have p2 : w.cell? ⟨b, o + k * 6 + 2, none⟩ = some (.int .i64 x.kids[k].num) := by rw [Nat.add_assoc]; exact hc 2 _ rfl
      have q2 := ((bcell hS.below).1 b _ hbs).trans p2
      have p3 : w.cell? ⟨b, o + k * 6 + 3, none⟩ = some (.string x.kids[k].text) := by rw [Nat.add_assoc]; exact hc 3 _ rfl
      have q3 := ((bcell hS.below).1 b _ hbs).trans p3
      have p4 : w.cell? ⟨b, o + k * 6 + 4, none⟩ = some (.slice Ak1 x.kids[k].keys.length ck1) := by rw [Nat.add_assoc]; exact hc 4 _ rfl
      have q4 := ((bcell hS.below).1 b _ hbs).trans p4
      have p5 : w.cell? ⟨b, o + k * 6 + 5, none⟩ = some (.slice Ac1 x.kids[k].kids.length cc1) := by rw [Nat.add_assoc]; exact hc 5 _ rfl
      have q5 := ((bcell hS.below).1 b _ hbs).trans p5
      clear hc
      have hwk := HW.out k hlt
      obtain ⟨Av, cv, hv2⟩ := row_sliceK hown
      subst hv2
      have SD := hS.ext (ext_drew (ext_refl wr))
      have hbd : Below wr.heap.size wr wr.drew := ext_drew (ext_refl _)
      have rd0 := row_ext hown hbd
      have hcd := OwnCells.ext hO hbd
      have hod := Own.ext hOK hbd
      have hzd := hbd.size
      have HLT := Lib.hid (fun g hg => (hown.lt g hg).2)
      have HLF := Lib.hid hO.lt
      have hrd := Dat.frame hr0 (fun b hb => SD.below.block b (Dat.lt hr0 b hb)) SD.below.size
      have x0 : (fun w' => w'.cell? ⟨w.heap.size + 1 + 1, 5, none⟩ = some (.slice Av k cv) ∧ w'.cell? ⟨w.heap.size, 5, none⟩ = some (.slice (some ⟨b, o, none⟩) x.kids.length cc) ∧ w'.cell? ⟨b, o + k * 6, none⟩ = some (.int .i64 x.kids[k].kind) ∧ w'.cell? ⟨b, o + k * 6 + 1, none⟩ = some (.bool x.kids[k].flag) ∧ w'.cell? ⟨b, o + k * 6 + 2, none⟩ = some (.int .i64 x.kids[k].num) ∧ w'.cell? ⟨b, o + k * 6 + 3, none⟩ = some (.string x.kids[k].text) ∧ w'.cell? ⟨b, o + k * 6 + 4, none⟩ = some (.slice Ak1 x.kids[k].keys.length ck1) ∧ w'.cell? ⟨b, o + k * 6 + 5, none⟩ = some (.slice Ac1 x.kids[k].kids.length cc1)) wr.drew := ⟨SD.ob.cell (i := 5) (u := .slice Av k cv) rfl, SD.box.cell (i := 5) (u := .slice (some ⟨b, o, none⟩) x.kids.length cc) rfl, ((bcell SD.below).1 b _ hbs).trans p0, ((bcell SD.below).1 b _ hbs).trans p1, ((bcell SD.below).1 b _ hbs).trans p2, ((bcell SD.below).1 b _ hbs).trans p3, ((bcell SD.below).1 b _ hbs).trans p4, ((bcell SD.below).1 b _ hbs).trans p5⟩
      have HNE := Lib.hid hne
      have hbx0 := hS.box.cell (i := 5) (u := .slice (some ⟨b, o, none⟩) x.kids.length cc) rfl
      clear hS hown hO hne hbd hOK
      go_wp2_with fail
      clear hbx0
      refine wp_region_cut (fun w' => w'.cell? ⟨w.heap.size + 1 + 1, 5, none⟩ = some (.slice Av k cv) ∧ w'.cell? ⟨w.heap.size, 5, none⟩ = some (.slice (some ⟨b, o, none⟩) x.kids.length cc) ∧ w'.cell? ⟨b, o + k * 6, none⟩ = some (.int .i64 x.kids[k].kind) ∧ w'.cell? ⟨b, o + k * 6 + 1, none⟩ = some (.bool x.kids[k].flag) ∧ w'.cell? ⟨b, o + k * 6 + 2, none⟩ = some (.int .i64 x.kids[k].num) ∧ w'.cell? ⟨b, o + k * 6 + 3, none⟩ = some (.string x.kids[k].text) ∧ w'.cell? ⟨b, o + k * 6 + 4, none⟩ = some (.slice Ak1 x.kids[k].keys.length ck1) ∧ w'.cell? ⟨b, o + k * 6 + 5, none⟩ = some (.slice Ac1 x.kids[k].kids.length cc1)) [0, 1, 2, 3, 4, 5, 6] [7, 8, 9] [10, 11] (by kernel_rfl) (by kernel_rfl) (fun _ _ d _ _ h => by cases d <;> exact h) x0 ?_
      clear x0
      generalize wr.drew = wd at *
      simp only [pick, List.getElem?_cons_succ, List.getElem?_cons_zero]
      iterate 7
        (apply headC_step
         case hy =>
           refine Or.inl ⟨rfl, fun wq hq => ?_⟩
           obtain ⟨y0, y1, y2, y3, y4, y5, y6, y7⟩ := hq
           go_simp
           try rfl
         simp only [Act.put, List.setIfInBounds_toArray, List.set_cons_zero, List.set_cons_succ])
      refine headC_nil ?_
      refine wpListK_step rfl (fun K hK => ?_)
      go_simp
      refine (IH.out x.kids[k] (List.getElem_mem ..) _ _ _ hrd hwk).mono ?_
      rintro e w10 ⟨cs10, G10, rfl, hO10, hb10⟩
      have hrh := hO10.rd
      obtain ⟨Ak7, ck7, Fk7, Ac7, cc7, Fc7, hck, hGh, hkind7, hnum7, htext7, hkeys7, hkids7⟩ := rd_Tree hrh
      subst hck
      clear hrh hGh
      have S10 := SD.ext hb10
      have x0 : (fun w' => w'.cell? ⟨w.heap.size + 1 + 1, 5, none⟩ = some (.slice Av k cv) ∧ w'.cell? ⟨w.heap.size, 5, none⟩ = some (.slice (some ⟨b, o, none⟩) x.kids.length cc) ∧ w'.cell? ⟨b, o + k * 6, none⟩ = some (.int .i64 x.kids[k].kind) ∧ w'.cell? ⟨b, o + k * 6 + 1, none⟩ = some (.bool x.kids[k].flag) ∧ w'.cell? ⟨b, o + k * 6 + 2, none⟩ = some (.int .i64 x.kids[k].num) ∧ w'.cell? ⟨b, o + k * 6 + 3, none⟩ = some (.string x.kids[k].text) ∧ w'.cell? ⟨b, o + k * 6 + 4, none⟩ = some (.slice Ak1 x.kids[k].keys.length ck1) ∧ w'.cell? ⟨b, o + k * 6 + 5, none⟩ = some (.slice Ac1 x.kids[k].kids.length cc1)) w10 := ⟨S10.ob.cell (i := 5) (u := .slice Av k cv) rfl, S10.box.cell (i := 5) (u := .slice (some ⟨b, o, none⟩) x.kids.length cc) rfl, ((bcell S10.below).1 b _ hbs).trans p0, ((bcell S10.below).1 b _ hbs).trans p1, ((bcell S10.below).1 b _ hbs).trans p2, ((bcell S10.below).1 b _ hbs).trans p3, ((bcell S10.below).1 b _ hbs).trans p4, ((bcell S10.below).1 b _ hbs).trans p5⟩
      refine hK _ _ x0 ?_
      try simp only [Act.put, List.setIfInBounds_toArray, List.set_cons_zero, List.set_cons_succ]
      clear hK K
      clear x0
      refine wpListK_step rfl (fun K hK => ?_)
      go_simp
      have S10a := S10.ext (ext_alloc (ext_refl _) (.cells ([.int .i64 x.kids[k].kind, .bool x.kids[k].flag, .int .i64 x.kids[k].num, .string x.kids[k].text, .slice Ak7 x.kids[k].keys.length ck7, .slice Ac7 x.kids[k].kids.length cc7] : List Value).toArray 35))
      have x0 : (fun w' => w'.cell? ⟨w.heap.size + 1 + 1, 5, none⟩ = some (.slice Av k cv) ∧ w'.cell? ⟨w.heap.size, 5, none⟩ = some (.slice (some ⟨b, o, none⟩) x.kids.length cc) ∧ w'.cell? ⟨b, o + k * 6, none⟩ = some (.int .i64 x.kids[k].kind) ∧ w'.cell? ⟨b, o + k * 6 + 1, none⟩ = some (.bool x.kids[k].flag) ∧ w'.cell? ⟨b, o + k * 6 + 2, none⟩ = some (.int .i64 x.kids[k].num) ∧ w'.cell? ⟨b, o + k * 6 + 3, none⟩ = some (.string x.kids[k].text) ∧ w'.cell? ⟨b, o + k * 6 + 4, none⟩ = some (.slice Ak1 x.kids[k].keys.length ck1) ∧ w'.cell? ⟨b, o + k * 6 + 5, none⟩ = some (.slice Ac1 x.kids[k].kids.length cc1)) (w10.alloc (.cells ([.int .i64 x.kids[k].kind, .bool x.kids[k].flag, .int .i64 x.kids[k].num, .string x.kids[k].text, .slice Ak7 x.kids[k].keys.length ck7, .slice Ac7 x.kids[k].kids.length cc7] : List Value).toArray 35)) := ⟨S10a.ob.cell (i := 5) (u := .slice Av k cv) rfl, S10a.box.cell (i := 5) (u := .slice (some ⟨b, o, none⟩) x.kids.length cc) rfl, ((bcell S10a.below).1 b _ hbs).trans p0, ((bcell S10a.below).1 b _ hbs).trans p1, ((bcell S10a.below).1 b _ hbs).trans p2, ((bcell S10a.below).1 b _ hbs).trans p3, ((bcell S10a.below).1 b _ hbs).trans p4, ((bcell S10a.below).1 b _ hbs).trans p5⟩
      refine hK _ _ x0 ?_
      try simp only [Act.put, List.setIfInBounds_toArray, List.set_cons_zero, List.set_cons_succ]
      clear hK K
      clear x0 S10a
      have r10 := row_ext rd0 hb10
      have HR10 := Lib.hid r10
      have HC10 := Lib.hid (OwnCells.ext hcd hb10)
      have HS10 := Lib.hid S10
      have HO10 := Lib.hid hO10
      have HOHd := Lib.hid (Own.ext hod hb10)
      have hz10 : wr.heap.size ≤ w10.heap.size := Nat.le_trans hzd hb10.size
      clear SD rd0 hcd S10 hO10 hb10 hrd hod
      refine wpListK_step rfl (fun K hK => ?_)
      refine wp_appendK elTree _ _ (by rfl) _ _ _ _ _ r10 (by rfl) [.int .i64 x.kids[k].kind, .bool x.kids[k].flag, .int .i64 x.kids[k].num, .string x.kids[k].text, .slice Ak7 x.kids[k].keys.length ck7, .slice Ac7 x.kids[k].kids.length cc7] (by first | rfl | (simp; rfl)) (by rfl) (by simp [Value.oneCell']) (by omega) (by omega) (by omega) ?_
      intro v6 w11 hown11 hg11 hz11 hat11
      obtain ⟨A7, c7, hv6⟩ := row_sliceK hown11
      subst hv6
      have S11 := HS10.out.grown hg11 (fun q hq => by have := (r10.lt q hq).1; omega)
      have x0 : (fun w' => w'.cell? ⟨w.heap.size + 1 + 1, 5, none⟩ = some (.slice Av k cv) ∧ w'.cell? ⟨w.heap.size, 5, none⟩ = some (.slice (some ⟨b, o, none⟩) x.kids.length cc) ∧ w'.cell? ⟨b, o + k * 6, none⟩ = some (.int .i64 x.kids[k].kind) ∧ w'.cell? ⟨b, o + k * 6 + 1, none⟩ = some (.bool x.kids[k].flag) ∧ w'.cell? ⟨b, o + k * 6 + 2, none⟩ = some (.int .i64 x.kids[k].num) ∧ w'.cell? ⟨b, o + k * 6 + 3, none⟩ = some (.string x.kids[k].text) ∧ w'.cell? ⟨b, o + k * 6 + 4, none⟩ = some (.slice Ak1 x.kids[k].keys.length ck1) ∧ w'.cell? ⟨b, o + k * 6 + 5, none⟩ = some (.slice Ac1 x.kids[k].kids.length cc1)) w11 := ⟨S11.ob.cell (i := 5) (u := .slice Av k cv) rfl, S11.box.cell (i := 5) (u := .slice (some ⟨b, o, none⟩) x.kids.length cc) rfl, ((bcell S11.below).1 b _ hbs).trans p0, ((bcell S11.below).1 b _ hbs).trans p1, ((bcell S11.below).1 b _ hbs).trans p2, ((bcell S11.below).1 b _ hbs).trans p3, ((bcell S11.below).1 b _ hbs).trans p4, ((bcell S11.below).1 b _ hbs).trans p5⟩
      have fx := S11.ob.fz 5
      have lx := S11.ob.lt
      refine hK _ _ x0 ?_
      try simp only [Act.put, List.setIfInBounds_toArray, List.set_cons_zero, List.set_cons_succ]
      clear hK K
      replace x0 := x0.1
      refine wpListK_nil ?_
      go_wp2
      obtain ⟨hcs12, hne12⟩ := OwnCells.pushK (v' := .slice A7 (k + 1) c7) HR10.out HC10.out HNE.out HO10.out (by omega) (fun g hg => by have := HLT.out g hg; omega) (fun y hy => by have := HLF.out y hy; omega) hg11 hat11
      rw [← List.take_succ_eq_append_getElem hlt] at hcs12
      have HOH11 := HOHd.out.grownK hg11 HG4.out (fun q hq => (r10.lt q hq).1)
      have r13 := row_setK (c := w.heap.size + 1 + 1) (i := 5) (u := .slice A7 (k + 1) c7) hown11 (fun g hg => by have := (hown11.lt g hg).1; omega)
      refine ⟨⟨k + 1, _, _, .slice A7 (k + 1) c7, by omega, by go_num, r13, hcs12.setCell (p := ⟨w.heap.size + 1 + 1, 5, none⟩) (by show w.heap.size + 1 + 1 < _; omega) _, hne12, HOH11.setCell (p := ⟨w.heap.size + 1 + 1, 5, none⟩) (by show w.heap.size + 1 + 1 < _; omega) _, S11.put 5 (.slice A7 (k + 1) c7), by have := hg11.size; simp only [World.setCell, Array.size_modify] at *; omega⟩, by simp [intOf]; omega⟩
    · have hkl2 : k = x.kids.length := by omega
      subst hkl2
      rw [List.take_length] at hO
      obtain ⟨Ap, cp, Gp, rfl, hOP⟩ := Own.of_row hown hO hne
      have hbx1 := hS.box.cell (i := 5) (u := .slice Ac x.kids.length cc) rfl
      have m0 := hS.ob.cell (i := 0) (u := .int .i64 x.kind) rfl
      have m1 := hS.ob.cell (i := 1) (u := .bool x.flag) rfl
      have m2 := hS.ob.cell (i := 2) (u := .int .i64 x.num) rfl
      have m3 := hS.ob.cell (i := 3) (u := .string x.text) rfl
      have m4 := hS.ob.cell (i := 4) (u := .slice A1 x.keys.length c1) rfl
      have m5 := hS.ob.cell (i := 5) (u := .slice Ap x.kids.length cp) rfl
      have r0 := hS.rb.cell (i := 0) (u := .int .i64 0) rfl
      have r1 := hS.rb.cell (i := 1) (u := .bool false) rfl
      have r2 := hS.rb.cell (i := 2) (u := .int .i64 0) rfl
      have r3 := hS.rb.cell (i := 3) (u := .string ⟨#[]⟩) rfl
      have r4 := hS.rb.cell (i := 4) (u := .slice none 0 0) rfl
      have r5 := hS.rb.cell (i := 5) (u := .slice none 0 0) rfl
      have rl := hS.rb.lt
      have rf := hS.rb.fz
      have HO := Lib.hid (show Own wr (w.heap.size + 1 + 1) x [.int .i64 x.kind, .bool x.flag, .int .i64 x.num, .string x.text, .slice A1 x.keys.length c1, .slice Ap x.kids.length cp] (G1 ++ Gp) from by
        refine Own.tree (B' := w.heap.size + 1 + 1) ?_ (by omega)
        refine Own.cons (c1 := [.int .i64 x.kind]) (rdInt _ x.kind hkind) ?_
        refine Own.cons (c1 := [.bool x.flag]) (rdBool _ x.flag) ?_
        refine Own.cons (c1 := [.int .i64 x.num]) (rdInt _ x.num hnum) ?_
        refine Own.cons (c1 := [.string x.text]) (rdStr _ x.text htext) ?_
        exact Own.pair (c1 := [.slice A1 x.keys.length c1]) (hOK.mono (by omega)) hOP (by omega) HG4.out)
      have HS := Lib.hid hS
      clear hS hOK hOP hown hO hne
      go_wp2_with fail
      try dsimp only
      iterate 60 (first | go_step | skip)
      refine bodyPost_ret (v := .agg #[.int .i64 x.kind, .bool x.flag, .int .i64 x.num, .string x.text, .slice A1 x.keys.length c1, .slice Ap x.kids.length cp]) (by simp [results, Tryz.results108, go_sem, *]) rfl ⟨[.int .i64 x.kind, .bool x.flag, .int .i64 x.num, .string x.text, .slice A1 x.keys.length c1, .slice Ap x.kids.length cp], G1 ++ Gp, rfl, ?_, ?_⟩
      · refine Own.mono (B := w.heap.size + 1 + 1) ?_ (by omega)
        repeat (first | with_reducible exact HO.out | with_reducible refine Own.setCell ?_ (by dsimp only; omega) _)
      · repeat (first | with_reducible exact HS.out.below | with_reducible refine ext_setCell ?_ (by first | exact Nat.le_refl _ | (dsimp only; omega)) _)
theorem l08Copy_all (n : Nat) : ∀ x : Tree, SizeOf.sizeOf x ≤ n → CpTreeS x := by
  induction n with
  | zero => intro x hx; exact l08Copy_step x fun k hk => by have := Tree.kid_lt x k hk; omega
  | succ n ih => intro x hx; exact l08Copy_step x fun k hk => ih k (by have := Tree.kid_lt x k hk; omega)
theorem l08Copy_any (x : Tree) (cs : List Value) (F : List Nat) (w : World) (h : rd w x cs F) (hw : (x.wt : Int) ≤ 1048576) :
    Calls Tryz.prog 108 #[.agg cs.toArray] w fun e w' => ∃ cs F, e = .returned (.agg cs.toArray) ∧ Own w' w.heap.size x cs F ∧ Below w.heap.size w w' := l08Copy_all _ x (Nat.le_refl _) cs F w h hw
end Go.Proofs.YtegekccoincicaaGreatDoor
