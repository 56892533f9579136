/- The program's reader of fields: lists. No condition. -/
import Derived.Test.YtegekccoincicaaGreatDoorTreeR
import Derived.Test.YtegekccoincicaaGreatDoorListF
namespace Go.Proofs.YtegekccoincicaaGreatDoor
open Dat (rd)
open Go.ChangeShapes Go.WideShapes Go.ChangeAt Go.RowKit
set_option linter.unusedVariables false
set_option linter.unusedSimpArgs false

def readL (x : Tree) (p : ByteArray) (f : Fault) (k : ByteArray) : List Tree × Fault := if f.code = 0 then listR x p k else ([], f)
theorem listR_ok (x : Tree) (p k : ByteArray) : FOk (listR x p k).2 (p.size + 1 + k.size) := by
  have h := pathR_size p k
  unfold listR
  split
  · exact noF_ok _
  · split
    · exact fl_ok (by omega) (by omega) h
    · split
      · exact fl_ok (by omega) (by omega) h
      · exact noF_ok _
set_option maxRecDepth 100000 in
set_option maxHeartbeats 4000000 in
theorem list_any (g : Nat) (x : Tree) (Ak Ac : Option Addr) (ck cc : Nat) (F : List Nat) (p : ByteArray) (f : Fault) (k : ByteArray) (w : World) (h : RS w g x Ak Ac ck cc F p f) (hw : (x.wt : Int) ≤ 1048576) (hp : (p.size : Int) ≤ 1048576) (hk : (k.size : Int) ≤ 1048576) :
    Calls Tryz.prog 53 #[.pointer (some ⟨g, 0, none⟩), .string k] w fun e w' => ∃ A c G, e = .returned (.slice A (readL x p f k).1.length c) ∧ Sl w' (readL x p f k).1 A c G ∧ (∀ b ∈ G, w.heap.size ≤ b) ∧ RS w' g x Ak Ac ck cc F p (readL x p f k).2 ∧ Upd [g] w w' := by
  have HR := Lib.hid h
  have HT := Lib.hid (fun wq (hq : Below w.heap.size w wq) => ListField_impl x _ _ p k wq (rd_extK h.rd hq) hw hp hk)
  have HFO := Lib.hid (show FOk (listR x p k).2 4194304 by obtain ⟨a1, a2, a3, a4⟩ := listR_ok x p k; exact ⟨a1, a2, a3, by omega⟩)
  have c70 := h.blk.cell (i := 7) (u := .int .i64 f.code) rfl
  have bl := h.blk.lt
  have hcode := h.fi.1
  clear h hw
  by_cases h0 : f.code = 0
  · have hd : (f.code != 0) = false := by simp [h0]
    obtain ⟨s, f1, hsf⟩ : ∃ s f1, listR x p k = (s, f1) := ⟨_, _, rfl⟩
    have HRT := Lib.hid (show readL x p f k = (s, f1) by unfold readL; rw [if_pos h0, hsf])
    rw [hsf] at HT HFO
    dsimp only at HT HFO
    clear hsf h0
    go_enter Tryz.func53, Tryz.ntmps53
    go_wp2_with fail
    generalize hW0 : World.alloc w _ = W0
    have hb0 : Below w.heap.size w W0 := hW0 ▸ ext_alloc (ext_refl w) _
    clear hW0
    have HD := Lib.hid ((HR.out.ext hb0).ext (ext_drew (ext_refl W0)))
    have HU0 := Lib.hid ((Upd.of_ext [g] hb0).drew)
    have HB0 := Lib.hid (ext_drew hb0)
    have HGL := Lib.hid (show g < W0.drew.heap.size from HD.out.blk.lt)
    clear c70 hb0 bl
    refine wp_region_anyC (C := (fun w' => w'.cell? ⟨g, 0, none⟩ = some (.int .i64 x.kind) ∧ w'.cell? ⟨g, 1, none⟩ = some (.bool x.flag) ∧ w'.cell? ⟨g, 2, none⟩ = some (.int .i64 x.num) ∧ w'.cell? ⟨g, 3, none⟩ = some (.string x.text) ∧ w'.cell? ⟨g, 4, none⟩ = some (.slice Ak x.keys.length ck) ∧ w'.cell? ⟨g, 5, none⟩ = some (.slice Ac x.kids.length cc) ∧ w'.cell? ⟨g, 6, none⟩ = some (.string p))) 18 (by kernel_rfl) rfl ⟨HD.out.blk.cell (i := 0) (u := .int .i64 x.kind) rfl, HD.out.blk.cell (i := 1) (u := .bool x.flag) rfl, HD.out.blk.cell (i := 2) (u := .int .i64 x.num) rfl, HD.out.blk.cell (i := 3) (u := .string x.text) rfl, HD.out.blk.cell (i := 4) (u := .slice Ak x.keys.length ck) rfl, HD.out.blk.cell (i := 5) (u := .slice Ac x.kids.length cc) rfl, HD.out.blk.cell (i := 6) (u := .string p) rfl⟩ ?_
    have hC : (fun w' => w'.cell? ⟨g, 0, none⟩ = some (.int .i64 x.kind) ∧ w'.cell? ⟨g, 1, none⟩ = some (.bool x.flag) ∧ w'.cell? ⟨g, 2, none⟩ = some (.int .i64 x.num) ∧ w'.cell? ⟨g, 3, none⟩ = some (.string x.text) ∧ w'.cell? ⟨g, 4, none⟩ = some (.slice Ak x.keys.length ck) ∧ w'.cell? ⟨g, 5, none⟩ = some (.slice Ac x.kids.length cc) ∧ w'.cell? ⟨g, 6, none⟩ = some (.string p)) W0.drew := ⟨HD.out.blk.cell (i := 0) (u := .int .i64 x.kind) rfl, HD.out.blk.cell (i := 1) (u := .bool x.flag) rfl, HD.out.blk.cell (i := 2) (u := .int .i64 x.num) rfl, HD.out.blk.cell (i := 3) (u := .string x.text) rfl, HD.out.blk.cell (i := 4) (u := .slice Ak x.keys.length ck) rfl, HD.out.blk.cell (i := 5) (u := .slice Ac x.kids.length cc) rfl, HD.out.blk.cell (i := 6) (u := .string p) rfl⟩
    refine anyH_take 0 _ (by rfl) (by kernel_rfl) (fun _ _ d _ _ h => by cases d <;> exact h) hC (Or.inl ⟨rfl, fun wq hq => by
      obtain ⟨y0, y1, y2, y3, y4, y5, y6⟩ := hq
      go_simp
      try rfl⟩) ?_
    simp only [Act.put, List.setIfInBounds_toArray, List.set_cons_zero, List.set_cons_succ]
    refine anyH_take 1 _ (by rfl) (by kernel_rfl) (fun _ _ d _ _ h => by cases d <;> exact h) hC (Or.inl ⟨rfl, fun wq hq => by
      obtain ⟨y0, y1, y2, y3, y4, y5, y6⟩ := hq
      go_simp
      try rfl⟩) ?_
    simp only [Act.put, List.setIfInBounds_toArray, List.set_cons_zero, List.set_cons_succ]
    refine anyH_take 2 _ (by rfl) (by kernel_rfl) (fun _ _ d _ _ h => by cases d <;> exact h) hC (Or.inl ⟨rfl, fun wq hq => by
      obtain ⟨y0, y1, y2, y3, y4, y5, y6⟩ := hq
      go_simp
      try rfl⟩) ?_
    simp only [Act.put, List.setIfInBounds_toArray, List.set_cons_zero, List.set_cons_succ]
    refine anyH_take 3 _ (by rfl) (by kernel_rfl) (fun _ _ d _ _ h => by cases d <;> exact h) hC (Or.inl ⟨rfl, fun wq hq => by
      obtain ⟨y0, y1, y2, y3, y4, y5, y6⟩ := hq
      go_simp
      try rfl⟩) ?_
    simp only [Act.put, List.setIfInBounds_toArray, List.set_cons_zero, List.set_cons_succ]
    refine anyH_take 4 _ (by rfl) (by kernel_rfl) (fun _ _ d _ _ h => by cases d <;> exact h) hC (Or.inl ⟨rfl, fun wq hq => by
      obtain ⟨y0, y1, y2, y3, y4, y5, y6⟩ := hq
      go_simp
      try rfl⟩) ?_
    simp only [Act.put, List.setIfInBounds_toArray, List.set_cons_zero, List.set_cons_succ]
    refine anyH_take 5 _ (by rfl) (by kernel_rfl) (fun _ _ d _ _ h => by cases d <;> exact h) hC (Or.inl ⟨rfl, fun wq hq => by
      obtain ⟨y0, y1, y2, y3, y4, y5, y6⟩ := hq
      go_simp
      try rfl⟩) ?_
    simp only [Act.put, List.setIfInBounds_toArray, List.set_cons_zero, List.set_cons_succ]
    refine anyH_take 6 _ (by rfl) (by kernel_rfl) (fun _ _ d _ _ h => by cases d <;> exact h) hC (Or.inl ⟨rfl, fun wq hq => by
      obtain ⟨y0, y1, y2, y3, y4, y5, y6⟩ := hq
      go_simp
      try rfl⟩) ?_
    simp only [Act.put, List.setIfInBounds_toArray, List.set_cons_zero, List.set_cons_succ]
    refine anyH_take 7 _ (by rfl) (by kernel_rfl) (fun _ _ d _ _ h => by cases d <;> exact h) hC (Or.inl ⟨rfl, fun wq hq => by
      obtain ⟨y0, y1, y2, y3, y4, y5, y6⟩ := hq
      go_simp
      try rfl⟩) ?_
    simp only [Act.put, List.setIfInBounds_toArray, List.set_cons_zero, List.set_cons_succ]
    refine anyH_take 8 _ (by rfl) (by kernel_rfl) (fun _ _ d _ _ h => by cases d <;> exact h) hC (Or.inl ⟨rfl, fun wq hq => by
      obtain ⟨y0, y1, y2, y3, y4, y5, y6⟩ := hq
      go_simp
      try rfl⟩) ?_
    simp only [Act.put, List.setIfInBounds_toArray, List.set_cons_zero, List.set_cons_succ]
    refine anyH_take 9 _ (by rfl) (by kernel_rfl) (fun _ _ d _ _ h => by cases d <;> exact h) hC (Or.inl ⟨rfl, fun wq hq => by
      obtain ⟨y0, y1, y2, y3, y4, y5, y6⟩ := hq
      go_simp
      try rfl⟩) ?_
    simp only [Act.put, List.setIfInBounds_toArray, List.set_cons_zero, List.set_cons_succ]
    refine anyH_one 10 (by rfl) (by kernel_rfl) (by rfl) (fun K hK => ?_)
    go_simp
    refine (HT.out W0.drew HB0.out).mono ?_
    rintro e w2 ⟨As, cs2, Gs, rfl, hSs, hgs, hb2⟩
    have HR2 := Lib.hid (HD.out.ext hb2)
    replace hC : (fun w' => w'.cell? ⟨g, 0, none⟩ = some (.int .i64 x.kind) ∧ w'.cell? ⟨g, 1, none⟩ = some (.bool x.flag) ∧ w'.cell? ⟨g, 2, none⟩ = some (.int .i64 x.num) ∧ w'.cell? ⟨g, 3, none⟩ = some (.string x.text) ∧ w'.cell? ⟨g, 4, none⟩ = some (.slice Ak x.keys.length ck) ∧ w'.cell? ⟨g, 5, none⟩ = some (.slice Ac x.kids.length cc) ∧ w'.cell? ⟨g, 6, none⟩ = some (.string p)) w2 := ⟨HR2.out.blk.cell (i := 0) (u := .int .i64 x.kind) rfl, HR2.out.blk.cell (i := 1) (u := .bool x.flag) rfl, HR2.out.blk.cell (i := 2) (u := .int .i64 x.num) rfl, HR2.out.blk.cell (i := 3) (u := .string x.text) rfl, HR2.out.blk.cell (i := 4) (u := .slice Ak x.keys.length ck) rfl, HR2.out.blk.cell (i := 5) (u := .slice Ac x.kids.length cc) rfl, HR2.out.blk.cell (i := 6) (u := .string p) rfl⟩
    refine hK _ _ hC ?_
    try simp only [Act.put, List.setIfInBounds_toArray, List.set_cons_zero, List.set_cons_succ]
    clear hK K
    refine anyH_one 11 (by rfl) (by kernel_rfl) (by rfl) (fun K hK => ?_)
    go_simp
    refine hK _ _ hC ?_
    try simp only [Act.put, List.setIfInBounds_toArray, List.set_cons_zero, List.set_cons_succ]
    clear hK K
    refine anyH_take 12 _ (by rfl) (by kernel_rfl) (fun _ _ d _ _ h => by cases d <;> exact h) hC (Or.inl ⟨rfl, fun wq hq => by
      obtain ⟨y0, y1, y2, y3, y4, y5, y6⟩ := hq
      go_simp
      try rfl⟩) ?_
    simp only [Act.put, List.setIfInBounds_toArray, List.set_cons_zero, List.set_cons_succ]
    refine anyH_take 13 _ (by rfl) (by kernel_rfl) (fun _ _ d _ _ h => by cases d <;> exact h) hC (Or.inl ⟨rfl, fun wq hq => by
      obtain ⟨y0, y1, y2, y3, y4, y5, y6⟩ := hq
      go_simp
      try rfl⟩) ?_
    simp only [Act.put, List.setIfInBounds_toArray, List.set_cons_zero, List.set_cons_succ]
    refine anyH_one 14 (by rfl) (by kernel_rfl) (by rfl) (fun K hK => ?_)
    go_simp
    refine hK _ _ hC ?_
    try simp only [Act.put, List.setIfInBounds_toArray, List.set_cons_zero, List.set_cons_succ]
    clear hK K
    have b7 := HR2.out.blk.cell (i := 7) (u := .int .i64 f.code) rfl
    have b8 := HR2.out.blk.cell (i := 8) (u := .int .i64 f.at_) rfl
    have b9 := HR2.out.blk.cell (i := 9) (u := .string f.path) rfl
    have bl2 := HR2.out.blk.lt
    have bf2 := HR2.out.blk.fz
    refine anyH_one 15 (by rfl) (by kernel_rfl) (by rfl) (fun K hK => ?_)
    go_simp
    refine hK _ _ hC ?_
    try simp only [Act.put, List.setIfInBounds_toArray, List.set_cons_zero, List.set_cons_succ]
    clear hK K
    refine anyH_one 16 (by rfl) (by kernel_rfl) (by rfl) (fun K hK => ?_)
    go_simp
    refine hK _ _ hC ?_
    try simp only [Act.put, List.setIfInBounds_toArray, List.set_cons_zero, List.set_cons_succ]
    clear hK K
    have HR3 := Lib.hid (HR2.out.put HFO.out)
    have hC3 : (fun w' => w'.cell? ⟨g, 0, none⟩ = some (.int .i64 x.kind) ∧ w'.cell? ⟨g, 1, none⟩ = some (.bool x.flag) ∧ w'.cell? ⟨g, 2, none⟩ = some (.int .i64 x.num) ∧ w'.cell? ⟨g, 3, none⟩ = some (.string x.text) ∧ w'.cell? ⟨g, 4, none⟩ = some (.slice Ak x.keys.length ck) ∧ w'.cell? ⟨g, 5, none⟩ = some (.slice Ac x.kids.length cc) ∧ w'.cell? ⟨g, 6, none⟩ = some (.string p)) (((w2.setCell ⟨g, 7, none⟩ (.int .i64 f1.code)).setCell ⟨g, 8, none⟩ (.int .i64 f1.at_)).setCell ⟨g, 9, none⟩ (.string f1.path)) := ⟨HR3.out.blk.cell (i := 0) (u := .int .i64 x.kind) rfl, HR3.out.blk.cell (i := 1) (u := .bool x.flag) rfl, HR3.out.blk.cell (i := 2) (u := .int .i64 x.num) rfl, HR3.out.blk.cell (i := 3) (u := .string x.text) rfl, HR3.out.blk.cell (i := 4) (u := .slice Ak x.keys.length ck) rfl, HR3.out.blk.cell (i := 5) (u := .slice Ac x.kids.length cc) rfl, HR3.out.blk.cell (i := 6) (u := .string p) rfl⟩
    refine anyH_one 17 (by rfl) (by kernel_rfl) (by rfl) (fun K hK => ?_)
    go_simp
    refine hK _ _ hC3 ?_
    try simp only [Act.put, List.setIfInBounds_toArray, List.set_cons_zero, List.set_cons_succ]
    clear hK K
    refine anyH_done (by kernel_rfl) ?_
    clear hC hC3 b7 b8 b9
    have HU3 := Lib.hid ((HU0.out.trans (Upd.of_ext [g] hb2)).trans (upd3 g w2 (.int .i64 f1.code) (.int .i64 f1.at_) (.string f1.path)))
    have HGS := Lib.hid (hSs.frame (w' := (((w2.setCell ⟨g, 7, none⟩ (.int .i64 f1.code)).setCell ⟨g, 8, none⟩ (.int .i64 f1.at_)).setCell ⟨g, 9, none⟩ (.string f1.path))) (fun b hb => by
      have hne : b ≠ g := by have := hgs b hb; have := HGL.out; omega
      rw [Below.heap_setCell _ _ _ _ (by exact hne), Below.heap_setCell _ _ _ _ (by exact hne), Below.heap_setCell _ _ _ _ (by exact hne)]) (by simp [World.setCell]))
    go_wp2
    go_ret
    rw [HRT.out]
    exact ⟨_, _, _, rfl, HGS.out, fun b hb => Nat.le_trans HB0.out.size (hgs b hb), HR3.out, HU3.out⟩
  · have hd : (f.code != 0) = true := by simp [h0]
    have HRT := Lib.hid (show readL x p f k = ([], f) by unfold readL; exact if_neg h0)
    clear h0
    go_enter Tryz.func53, Tryz.ntmps53
    go_wp2
    go_ret
    rw [HRT.out]
    exact ⟨none, 0, _, rfl, Sl.nil _ _ _ (by unfold maxLen; omega), fun b hb => (by cases hb), HR.out, .refl _ _⟩
end Go.Proofs.YtegekccoincicaaGreatDoor
