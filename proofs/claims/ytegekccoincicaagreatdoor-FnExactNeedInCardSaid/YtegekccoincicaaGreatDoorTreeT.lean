/- The program's reader of fields: texts. No condition. -/
import Derived.Test.YtegekccoincicaaGreatDoorTreeR
namespace Go.Proofs.YtegekccoincicaaGreatDoor
open Dat (rd)
open Go.ChangeShapes Go.WideShapes Go.ChangeAt Go.RowKit
set_option linter.unusedVariables false
set_option linter.unusedSimpArgs false

/-- a text that must be as a function says -/
def readT (x : Tree) (p : ByteArray) (f : Fault) (k : ByteArray) (fine : ByteArray → Bool) : ByteArray × Fault :=
  if f.code = 0 then (if (textR x p k).2.code = 0 ∧ fine (textR x p k).1 = false then ((textR x p k).1, fl 14 (pathR p k)) else textR x p k) else (⟨#[]⟩, f)
set_option maxRecDepth 100000 in
set_option maxHeartbeats 4000000 in
theorem text_any (g : Nat) (x : Tree) (Ak Ac : Option Addr) (ck cc : Nat) (F : List Nat) (p : ByteArray) (f : Fault) (k : ByteArray) (fine : ByteArray → Bool) (n : FuncId) (w : World) (h : RS w g x Ak Ac ck cc F p f) (hw : (x.wt : Int) ≤ 1048576) (hp : (p.size : Int) ≤ 1048576) (hk : (k.size : Int) ≤ 1048576)
    (hcf : ∀ (a : Array Value) (w : World), (callFunc n a).run Tryz.prog w = .ok (.enter n a) w) (hfn : ∀ (s : ByteArray) (w2 : World), (s.size : Int) ≤ 1048576 → Upd [g] w w2 → Calls Tryz.prog n #[.string s] w2 fun e w' => e = .returned (.bool (fine s)) ∧ Below w2.heap.size w2 w') :
    Calls Tryz.prog 49 #[.pointer (some ⟨g, 0, none⟩), .string k, .func (.func n) #[] #[]] w fun e w' => e = .returned (.string (readT x p f k fine).1) ∧ RS w' g x Ak Ac ck cc F p (readT x p f k fine).2 ∧ Upd [g] w w' := by
  have HR := Lib.hid h
  have HD := Lib.hid (h.ext (ext_drew (ext_refl w)))
  have HT := Lib.hid (fun wq (hq : Below w.drew.heap.size w.drew wq) => TextField_impl x _ _ p k wq (rd_extK h.rd (ext_trans (ext_drew (ext_refl w)) hq)) hw hp hk)
  have HFO := Lib.hid (show FOk (textR x p k).2 4194304 by obtain ⟨a1, a2, a3, a4⟩ := (textR_ok x p k).1; exact ⟨a1, a2, a3, by omega⟩)
  have HSZ := Lib.hid (show ((textR x p k).1.size : Int) ≤ 1048576 by have := (textR_ok x p k).2; omega)
  have HQ := Lib.hid (show FOk (fl 14 (pathR p k)) 4194304 from fl_ok (by omega) (by omega) (by have := pathR_size p k; omega))
  have HFN0 := Lib.hid hfn
  have c70 := h.blk.cell (i := 7) (u := .int .i64 f.code) rfl
  have bl := h.blk.lt
  have hcode := h.fi.1
  clear h hw hfn
  by_cases h0 : f.code = 0
  · have hd : (f.code != 0) = false := by simp [h0]
    obtain ⟨s, f1, hsf⟩ : ∃ s f1, textR x p k = (s, f1) := ⟨_, _, rfl⟩
    have HRT := Lib.hid (show readT x p f k fine = if f1.code = 0 ∧ fine s = false then (s, fl 14 (pathR p k)) else (s, f1) by unfold readT; rw [if_pos h0, hsf])
    rw [hsf] at HT HFO HSZ
    dsimp only at HT HFO HSZ
    clear hsf h0
    by_cases h1 : f1.code = 0
    · have hd1 : (f1.code == 0) = true := by simp [h1]
      cases hfs : fine s with
      | true =>
        have HFN := Lib.hid hfs
        have HRS := Lib.hid (show readT x p f k fine = (s, f1) by rw [HRT.out]; exact if_neg (by rw [hfs]; simp))
        clear hfs h1
        go_enter Tryz.func49, Tryz.ntmps49
        go_wp2_with fail
        refine wp_region_anyC (C := (fun w' => w'.cell? ⟨g, 0, none⟩ = some (.int .i64 x.kind) ∧ w'.cell? ⟨g, 1, none⟩ = some (.bool x.flag) ∧ w'.cell? ⟨g, 2, none⟩ = some (.int .i64 x.num) ∧ w'.cell? ⟨g, 3, none⟩ = some (.string x.text) ∧ w'.cell? ⟨g, 4, none⟩ = some (.slice Ak x.keys.length ck) ∧ w'.cell? ⟨g, 5, none⟩ = some (.slice Ac x.kids.length cc) ∧ w'.cell? ⟨g, 6, none⟩ = some (.string p))) 18 (by kernel_rfl) rfl ⟨HD.out.blk.cell (i := 0) (u := .int .i64 x.kind) rfl, HD.out.blk.cell (i := 1) (u := .bool x.flag) rfl, HD.out.blk.cell (i := 2) (u := .int .i64 x.num) rfl, HD.out.blk.cell (i := 3) (u := .string x.text) rfl, HD.out.blk.cell (i := 4) (u := .slice Ak x.keys.length ck) rfl, HD.out.blk.cell (i := 5) (u := .slice Ac x.kids.length cc) rfl, HD.out.blk.cell (i := 6) (u := .string p) rfl⟩ ?_
        have hC : (fun w' => w'.cell? ⟨g, 0, none⟩ = some (.int .i64 x.kind) ∧ w'.cell? ⟨g, 1, none⟩ = some (.bool x.flag) ∧ w'.cell? ⟨g, 2, none⟩ = some (.int .i64 x.num) ∧ w'.cell? ⟨g, 3, none⟩ = some (.string x.text) ∧ w'.cell? ⟨g, 4, none⟩ = some (.slice Ak x.keys.length ck) ∧ w'.cell? ⟨g, 5, none⟩ = some (.slice Ac x.kids.length cc) ∧ w'.cell? ⟨g, 6, none⟩ = some (.string p)) w.drew := ⟨HD.out.blk.cell (i := 0) (u := .int .i64 x.kind) rfl, HD.out.blk.cell (i := 1) (u := .bool x.flag) rfl, HD.out.blk.cell (i := 2) (u := .int .i64 x.num) rfl, HD.out.blk.cell (i := 3) (u := .string x.text) rfl, HD.out.blk.cell (i := 4) (u := .slice Ak x.keys.length ck) rfl, HD.out.blk.cell (i := 5) (u := .slice Ac x.kids.length cc) rfl, HD.out.blk.cell (i := 6) (u := .string p) rfl⟩
        refine anyH_take 0 _ (by rfl) (by kernel_rfl) (fun _ _ d _ _ h => by cases d <;> exact h) hC (Or.inl ⟨rfl, fun wq hq => by
          obtain ⟨y0, y1, y2, y3, y4, y5, y6⟩ := hq
          go_simp
          try rfl⟩) ?_
        simp only [Act.put, List.setIfInBounds_toArray, List.set_cons_zero, List.set_cons_succ]
        refine anyH_take 1 _ (by rfl) (by kernel_rfl) (fun _ _ d _ _ h => by cases d <;> exact h) hC (Or.inl ⟨rfl, fun wq hq => by
          obtain ⟨y0, y1, y2, y3, y4, y5, y6⟩ := hq
          go_simp
          try rfl⟩) ?_
        simp only [Act.put, List.setIfInBounds_toArray, List.set_cons_zero, List.set_cons_succ]
        refine anyH_take 2 _ (by rfl) (by kernel_rfl) (fun _ _ d _ _ h => by cases d <;> exact h) hC (Or.inl ⟨rfl, fun wq hq => by
          obtain ⟨y0, y1, y2, y3, y4, y5, y6⟩ := hq
          go_simp
          try rfl⟩) ?_
        simp only [Act.put, List.setIfInBounds_toArray, List.set_cons_zero, List.set_cons_succ]
        refine anyH_take 3 _ (by rfl) (by kernel_rfl) (fun _ _ d _ _ h => by cases d <;> exact h) hC (Or.inl ⟨rfl, fun wq hq => by
          obtain ⟨y0, y1, y2, y3, y4, y5, y6⟩ := hq
          go_simp
          try rfl⟩) ?_
        simp only [Act.put, List.setIfInBounds_toArray, List.set_cons_zero, List.set_cons_succ]
        refine anyH_take 4 _ (by rfl) (by kernel_rfl) (fun _ _ d _ _ h => by cases d <;> exact h) hC (Or.inl ⟨rfl, fun wq hq => by
          obtain ⟨y0, y1, y2, y3, y4, y5, y6⟩ := hq
          go_simp
          try rfl⟩) ?_
        simp only [Act.put, List.setIfInBounds_toArray, List.set_cons_zero, List.set_cons_succ]
        refine anyH_take 5 _ (by rfl) (by kernel_rfl) (fun _ _ d _ _ h => by cases d <;> exact h) hC (Or.inl ⟨rfl, fun wq hq => by
          obtain ⟨y0, y1, y2, y3, y4, y5, y6⟩ := hq
          go_simp
          try rfl⟩) ?_
        simp only [Act.put, List.setIfInBounds_toArray, List.set_cons_zero, List.set_cons_succ]
        refine anyH_take 6 _ (by rfl) (by kernel_rfl) (fun _ _ d _ _ h => by cases d <;> exact h) hC (Or.inl ⟨rfl, fun wq hq => by
          obtain ⟨y0, y1, y2, y3, y4, y5, y6⟩ := hq
          go_simp
          try rfl⟩) ?_
        simp only [Act.put, List.setIfInBounds_toArray, List.set_cons_zero, List.set_cons_succ]
        refine anyH_take 7 _ (by rfl) (by kernel_rfl) (fun _ _ d _ _ h => by cases d <;> exact h) hC (Or.inl ⟨rfl, fun wq hq => by
          obtain ⟨y0, y1, y2, y3, y4, y5, y6⟩ := hq
          go_simp
          try rfl⟩) ?_
        simp only [Act.put, List.setIfInBounds_toArray, List.set_cons_zero, List.set_cons_succ]
        refine anyH_take 8 _ (by rfl) (by kernel_rfl) (fun _ _ d _ _ h => by cases d <;> exact h) hC (Or.inl ⟨rfl, fun wq hq => by
          obtain ⟨y0, y1, y2, y3, y4, y5, y6⟩ := hq
          go_simp
          try rfl⟩) ?_
        simp only [Act.put, List.setIfInBounds_toArray, List.set_cons_zero, List.set_cons_succ]
        refine anyH_take 9 _ (by rfl) (by kernel_rfl) (fun _ _ d _ _ h => by cases d <;> exact h) hC (Or.inl ⟨rfl, fun wq hq => by
          obtain ⟨y0, y1, y2, y3, y4, y5, y6⟩ := hq
          go_simp
          try rfl⟩) ?_
        simp only [Act.put, List.setIfInBounds_toArray, List.set_cons_zero, List.set_cons_succ]
        refine anyH_one 10 (by rfl) (by kernel_rfl) (by rfl) (fun K hK => ?_)
        go_simp
        refine (HT.out w.drew (ext_refl _)).mono ?_
        rintro e w2 ⟨rfl, hb2⟩
        have HR2 := Lib.hid (HD.out.ext hb2)
        replace hC : (fun w' => w'.cell? ⟨g, 0, none⟩ = some (.int .i64 x.kind) ∧ w'.cell? ⟨g, 1, none⟩ = some (.bool x.flag) ∧ w'.cell? ⟨g, 2, none⟩ = some (.int .i64 x.num) ∧ w'.cell? ⟨g, 3, none⟩ = some (.string x.text) ∧ w'.cell? ⟨g, 4, none⟩ = some (.slice Ak x.keys.length ck) ∧ w'.cell? ⟨g, 5, none⟩ = some (.slice Ac x.kids.length cc) ∧ w'.cell? ⟨g, 6, none⟩ = some (.string p)) w2 := ⟨HR2.out.blk.cell (i := 0) (u := .int .i64 x.kind) rfl, HR2.out.blk.cell (i := 1) (u := .bool x.flag) rfl, HR2.out.blk.cell (i := 2) (u := .int .i64 x.num) rfl, HR2.out.blk.cell (i := 3) (u := .string x.text) rfl, HR2.out.blk.cell (i := 4) (u := .slice Ak x.keys.length ck) rfl, HR2.out.blk.cell (i := 5) (u := .slice Ac x.kids.length cc) rfl, HR2.out.blk.cell (i := 6) (u := .string p) rfl⟩
        refine hK _ _ hC ?_
        try simp only [Act.put, List.setIfInBounds_toArray, List.set_cons_zero, List.set_cons_succ]
        clear hK K
        refine anyH_one 11 (by rfl) (by kernel_rfl) (by rfl) (fun K hK => ?_)
        go_simp
        refine hK _ _ hC ?_
        try simp only [Act.put, List.setIfInBounds_toArray, List.set_cons_zero, List.set_cons_succ]
        clear hK K
        refine anyH_take 12 _ (by rfl) (by kernel_rfl) (fun _ _ d _ _ h => by cases d <;> exact h) hC (Or.inl ⟨rfl, fun wq hq => by
          obtain ⟨y0, y1, y2, y3, y4, y5, y6⟩ := hq
          go_simp
          try rfl⟩) ?_
        simp only [Act.put, List.setIfInBounds_toArray, List.set_cons_zero, List.set_cons_succ]
        refine anyH_take 13 _ (by rfl) (by kernel_rfl) (fun _ _ d _ _ h => by cases d <;> exact h) hC (Or.inl ⟨rfl, fun wq hq => by
          obtain ⟨y0, y1, y2, y3, y4, y5, y6⟩ := hq
          go_simp
          try rfl⟩) ?_
        simp only [Act.put, List.setIfInBounds_toArray, List.set_cons_zero, List.set_cons_succ]
        refine anyH_one 14 (by rfl) (by kernel_rfl) (by rfl) (fun K hK => ?_)
        go_simp
        refine hK _ _ hC ?_
        try simp only [Act.put, List.setIfInBounds_toArray, List.set_cons_zero, List.set_cons_succ]
        clear hK K
        have b7 := HR2.out.blk.cell (i := 7) (u := .int .i64 f.code) rfl
        have b8 := HR2.out.blk.cell (i := 8) (u := .int .i64 f.at_) rfl
        have b9 := HR2.out.blk.cell (i := 9) (u := .string f.path) rfl
        have bl2 := HR2.out.blk.lt
        have bf2 := HR2.out.blk.fz
        refine anyH_one 15 (by rfl) (by kernel_rfl) (by rfl) (fun K hK => ?_)
        go_simp
        refine hK _ _ hC ?_
        try simp only [Act.put, List.setIfInBounds_toArray, List.set_cons_zero, List.set_cons_succ]
        clear hK K
        refine anyH_one 16 (by rfl) (by kernel_rfl) (by rfl) (fun K hK => ?_)
        go_simp
        refine hK _ _ hC ?_
        try simp only [Act.put, List.setIfInBounds_toArray, List.set_cons_zero, List.set_cons_succ]
        clear hK K
        have HR3 := Lib.hid (HR2.out.put HFO.out)
        have hC3 : (fun w' => w'.cell? ⟨g, 0, none⟩ = some (.int .i64 x.kind) ∧ w'.cell? ⟨g, 1, none⟩ = some (.bool x.flag) ∧ w'.cell? ⟨g, 2, none⟩ = some (.int .i64 x.num) ∧ w'.cell? ⟨g, 3, none⟩ = some (.string x.text) ∧ w'.cell? ⟨g, 4, none⟩ = some (.slice Ak x.keys.length ck) ∧ w'.cell? ⟨g, 5, none⟩ = some (.slice Ac x.kids.length cc) ∧ w'.cell? ⟨g, 6, none⟩ = some (.string p)) (((w2.setCell ⟨g, 7, none⟩ (.int .i64 f1.code)).setCell ⟨g, 8, none⟩ (.int .i64 f1.at_)).setCell ⟨g, 9, none⟩ (.string f1.path)) := ⟨HR3.out.blk.cell (i := 0) (u := .int .i64 x.kind) rfl, HR3.out.blk.cell (i := 1) (u := .bool x.flag) rfl, HR3.out.blk.cell (i := 2) (u := .int .i64 x.num) rfl, HR3.out.blk.cell (i := 3) (u := .string x.text) rfl, HR3.out.blk.cell (i := 4) (u := .slice Ak x.keys.length ck) rfl, HR3.out.blk.cell (i := 5) (u := .slice Ac x.kids.length cc) rfl, HR3.out.blk.cell (i := 6) (u := .string p) rfl⟩
        refine anyH_one 17 (by rfl) (by kernel_rfl) (by rfl) (fun K hK => ?_)
        go_simp
        refine hK _ _ hC3 ?_
        try simp only [Act.put, List.setIfInBounds_toArray, List.set_cons_zero, List.set_cons_succ]
        clear hK K
        refine anyH_done (by kernel_rfl) ?_
        clear hC hC3 b7 b8 b9 bl2 bf2
        have HU3 := Lib.hid (((Upd.refl [g] w).drew.trans (Upd.of_ext [g] hb2)).trans (upd3 g w2 (.int .i64 f1.code) (.int .i64 f1.at_) (.string f1.path)))
        obtain ⟨w3, hw3⟩ : ∃ w3, ((w2.setCell ⟨g, 7, none⟩ (.int .i64 f1.code)).setCell ⟨g, 8, none⟩ (.int .i64 f1.at_)).setCell ⟨g, 9, none⟩ (.string f1.path) = w3 := ⟨_, rfl⟩
        rw [hw3] at HR3 HU3
        have HW3 := Lib.hid hw3
        clear hw3
        have c7 := HR3.out.blk.cell (i := 7) (u := .int .i64 f1.code) rfl
        have c6 := HR3.out.blk.cell (i := 6) (u := .string p) rfl
        have bl3 := HR3.out.blk.lt
        have bf3 := HR3.out.blk.fz
        rw [HW3.out]
        go_wp2_with ((first | refine (HFN0.out s _ HSZ.out HU3.out).mono ?_); rw [HFN.out]; rintro e w4 ⟨rfl, hb4⟩; obtain ⟨hc4, hf4⟩ := bcell hb4; have HR4 := Lib.hid (HR3.out.ext hb4); have HU4 := Lib.hid (HU3.out.trans (Upd.of_ext [g] hb4)); have bl4 : g < w4.heap.size := (by have := hb4.size; omega))
        go_ret
        exact ⟨by rw [HRS.out]; rfl, by rw [HRS.out]; exact HR4.out, HU4.out⟩
      | false =>
        have HFN := Lib.hid hfs
        have HRS := Lib.hid (show readT x p f k fine = (s, fl 14 (pathR p k)) by rw [HRT.out]; exact if_pos ⟨h1, hfs⟩)
        have HFL := Lib.hid (show failR f1 14 (pathR p k) = fl 14 (pathR p k) by unfold failR; exact if_pos h1)
        clear hfs h1
        go_enter Tryz.func49, Tryz.ntmps49
        go_wp2_with fail
        refine wp_region_anyC (C := (fun w' => w'.cell? ⟨g, 0, none⟩ = some (.int .i64 x.kind) ∧ w'.cell? ⟨g, 1, none⟩ = some (.bool x.flag) ∧ w'.cell? ⟨g, 2, none⟩ = some (.int .i64 x.num) ∧ w'.cell? ⟨g, 3, none⟩ = some (.string x.text) ∧ w'.cell? ⟨g, 4, none⟩ = some (.slice Ak x.keys.length ck) ∧ w'.cell? ⟨g, 5, none⟩ = some (.slice Ac x.kids.length cc) ∧ w'.cell? ⟨g, 6, none⟩ = some (.string p))) 18 (by kernel_rfl) rfl ⟨HD.out.blk.cell (i := 0) (u := .int .i64 x.kind) rfl, HD.out.blk.cell (i := 1) (u := .bool x.flag) rfl, HD.out.blk.cell (i := 2) (u := .int .i64 x.num) rfl, HD.out.blk.cell (i := 3) (u := .string x.text) rfl, HD.out.blk.cell (i := 4) (u := .slice Ak x.keys.length ck) rfl, HD.out.blk.cell (i := 5) (u := .slice Ac x.kids.length cc) rfl, HD.out.blk.cell (i := 6) (u := .string p) rfl⟩ ?_
        have hC : (fun w' => w'.cell? ⟨g, 0, none⟩ = some (.int .i64 x.kind) ∧ w'.cell? ⟨g, 1, none⟩ = some (.bool x.flag) ∧ w'.cell? ⟨g, 2, none⟩ = some (.int .i64 x.num) ∧ w'.cell? ⟨g, 3, none⟩ = some (.string x.text) ∧ w'.cell? ⟨g, 4, none⟩ = some (.slice Ak x.keys.length ck) ∧ w'.cell? ⟨g, 5, none⟩ = some (.slice Ac x.kids.length cc) ∧ w'.cell? ⟨g, 6, none⟩ = some (.string p)) w.drew := ⟨HD.out.blk.cell (i := 0) (u := .int .i64 x.kind) rfl, HD.out.blk.cell (i := 1) (u := .bool x.flag) rfl, HD.out.blk.cell (i := 2) (u := .int .i64 x.num) rfl, HD.out.blk.cell (i := 3) (u := .string x.text) rfl, HD.out.blk.cell (i := 4) (u := .slice Ak x.keys.length ck) rfl, HD.out.blk.cell (i := 5) (u := .slice Ac x.kids.length cc) rfl, HD.out.blk.cell (i := 6) (u := .string p) rfl⟩
        refine anyH_take 0 _ (by rfl) (by kernel_rfl) (fun _ _ d _ _ h => by cases d <;> exact h) hC (Or.inl ⟨rfl, fun wq hq => by
          obtain ⟨y0, y1, y2, y3, y4, y5, y6⟩ := hq
          go_simp
          try rfl⟩) ?_
        simp only [Act.put, List.setIfInBounds_toArray, List.set_cons_zero, List.set_cons_succ]
        refine anyH_take 1 _ (by rfl) (by kernel_rfl) (fun _ _ d _ _ h => by cases d <;> exact h) hC (Or.inl ⟨rfl, fun wq hq => by
          obtain ⟨y0, y1, y2, y3, y4, y5, y6⟩ := hq
          go_simp
          try rfl⟩) ?_
        simp only [Act.put, List.setIfInBounds_toArray, List.set_cons_zero, List.set_cons_succ]
        refine anyH_take 2 _ (by rfl) (by kernel_rfl) (fun _ _ d _ _ h => by cases d <;> exact h) hC (Or.inl ⟨rfl, fun wq hq => by
          obtain ⟨y0, y1, y2, y3, y4, y5, y6⟩ := hq
          go_simp
          try rfl⟩) ?_
        simp only [Act.put, List.setIfInBounds_toArray, List.set_cons_zero, List.set_cons_succ]
        refine anyH_take 3 _ (by rfl) (by kernel_rfl) (fun _ _ d _ _ h => by cases d <;> exact h) hC (Or.inl ⟨rfl, fun wq hq => by
          obtain ⟨y0, y1, y2, y3, y4, y5, y6⟩ := hq
          go_simp
          try rfl⟩) ?_
        simp only [Act.put, List.setIfInBounds_toArray, List.set_cons_zero, List.set_cons_succ]
        refine anyH_take 4 _ (by rfl) (by kernel_rfl) (fun _ _ d _ _ h => by cases d <;> exact h) hC (Or.inl ⟨rfl, fun wq hq => by
          obtain ⟨y0, y1, y2, y3, y4, y5, y6⟩ := hq
          go_simp
          try rfl⟩) ?_
        simp only [Act.put, List.setIfInBounds_toArray, List.set_cons_zero, List.set_cons_succ]
        refine anyH_take 5 _ (by rfl) (by kernel_rfl) (fun _ _ d _ _ h => by cases d <;> exact h) hC (Or.inl ⟨rfl, fun wq hq => by
          obtain ⟨y0, y1, y2, y3, y4, y5, y6⟩ := hq
          go_simp
          try rfl⟩) ?_
        simp only [Act.put, List.setIfInBounds_toArray, List.set_cons_zero, List.set_cons_succ]
        refine anyH_take 6 _ (by rfl) (by kernel_rfl) (fun _ _ d _ _ h => by cases d <;> exact h) hC (Or.inl ⟨rfl, fun wq hq => by
          obtain ⟨y0, y1, y2, y3, y4, y5, y6⟩ := hq
          go_simp
          try rfl⟩) ?_
        simp only [Act.put, List.setIfInBounds_toArray, List.set_cons_zero, List.set_cons_succ]
        refine anyH_take 7 _ (by rfl) (by kernel_rfl) (fun _ _ d _ _ h => by cases d <;> exact h) hC (Or.inl ⟨rfl, fun wq hq => by
          obtain ⟨y0, y1, y2, y3, y4, y5, y6⟩ := hq
          go_simp
          try rfl⟩) ?_
        simp only [Act.put, List.setIfInBounds_toArray, List.set_cons_zero, List.set_cons_succ]
        refine anyH_take 8 _ (by rfl) (by kernel_rfl) (fun _ _ d _ _ h => by cases d <;> exact h) hC (Or.inl ⟨rfl, fun wq hq => by
          obtain ⟨y0, y1, y2, y3, y4, y5, y6⟩ := hq
          go_simp
          try rfl⟩) ?_
        simp only [Act.put, List.setIfInBounds_toArray, List.set_cons_zero, List.set_cons_succ]
        refine anyH_take 9 _ (by rfl) (by kernel_rfl) (fun _ _ d _ _ h => by cases d <;> exact h) hC (Or.inl ⟨rfl, fun wq hq => by
          obtain ⟨y0, y1, y2, y3, y4, y5, y6⟩ := hq
          go_simp
          try rfl⟩) ?_
        simp only [Act.put, List.setIfInBounds_toArray, List.set_cons_zero, List.set_cons_succ]
        refine anyH_one 10 (by rfl) (by kernel_rfl) (by rfl) (fun K hK => ?_)
        go_simp
        refine (HT.out w.drew (ext_refl _)).mono ?_
        rintro e w2 ⟨rfl, hb2⟩
        have HR2 := Lib.hid (HD.out.ext hb2)
        replace hC : (fun w' => w'.cell? ⟨g, 0, none⟩ = some (.int .i64 x.kind) ∧ w'.cell? ⟨g, 1, none⟩ = some (.bool x.flag) ∧ w'.cell? ⟨g, 2, none⟩ = some (.int .i64 x.num) ∧ w'.cell? ⟨g, 3, none⟩ = some (.string x.text) ∧ w'.cell? ⟨g, 4, none⟩ = some (.slice Ak x.keys.length ck) ∧ w'.cell? ⟨g, 5, none⟩ = some (.slice Ac x.kids.length cc) ∧ w'.cell? ⟨g, 6, none⟩ = some (.string p)) w2 := ⟨HR2.out.blk.cell (i := 0) (u := .int .i64 x.kind) rfl, HR2.out.blk.cell (i := 1) (u := .bool x.flag) rfl, HR2.out.blk.cell (i := 2) (u := .int .i64 x.num) rfl, HR2.out.blk.cell (i := 3) (u := .string x.text) rfl, HR2.out.blk.cell (i := 4) (u := .slice Ak x.keys.length ck) rfl, HR2.out.blk.cell (i := 5) (u := .slice Ac x.kids.length cc) rfl, HR2.out.blk.cell (i := 6) (u := .string p) rfl⟩
        refine hK _ _ hC ?_
        try simp only [Act.put, List.setIfInBounds_toArray, List.set_cons_zero, List.set_cons_succ]
        clear hK K
        refine anyH_one 11 (by rfl) (by kernel_rfl) (by rfl) (fun K hK => ?_)
        go_simp
        refine hK _ _ hC ?_
        try simp only [Act.put, List.setIfInBounds_toArray, List.set_cons_zero, List.set_cons_succ]
        clear hK K
        refine anyH_take 12 _ (by rfl) (by kernel_rfl) (fun _ _ d _ _ h => by cases d <;> exact h) hC (Or.inl ⟨rfl, fun wq hq => by
          obtain ⟨y0, y1, y2, y3, y4, y5, y6⟩ := hq
          go_simp
          try rfl⟩) ?_
        simp only [Act.put, List.setIfInBounds_toArray, List.set_cons_zero, List.set_cons_succ]
        refine anyH_take 13 _ (by rfl) (by kernel_rfl) (fun _ _ d _ _ h => by cases d <;> exact h) hC (Or.inl ⟨rfl, fun wq hq => by
          obtain ⟨y0, y1, y2, y3, y4, y5, y6⟩ := hq
          go_simp
          try rfl⟩) ?_
        simp only [Act.put, List.setIfInBounds_toArray, List.set_cons_zero, List.set_cons_succ]
        refine anyH_one 14 (by rfl) (by kernel_rfl) (by rfl) (fun K hK => ?_)
        go_simp
        refine hK _ _ hC ?_
        try simp only [Act.put, List.setIfInBounds_toArray, List.set_cons_zero, List.set_cons_succ]
        clear hK K
        have b7 := HR2.out.blk.cell (i := 7) (u := .int .i64 f.code) rfl
        have b8 := HR2.out.blk.cell (i := 8) (u := .int .i64 f.at_) rfl
        have b9 := HR2.out.blk.cell (i := 9) (u := .string f.path) rfl
        have bl2 := HR2.out.blk.lt
        have bf2 := HR2.out.blk.fz
        refine anyH_one 15 (by rfl) (by kernel_rfl) (by rfl) (fun K hK => ?_)
        go_simp
        refine hK _ _ hC ?_
        try simp only [Act.put, List.setIfInBounds_toArray, List.set_cons_zero, List.set_cons_succ]
        clear hK K
        refine anyH_one 16 (by rfl) (by kernel_rfl) (by rfl) (fun K hK => ?_)
        go_simp
        refine hK _ _ hC ?_
        try simp only [Act.put, List.setIfInBounds_toArray, List.set_cons_zero, List.set_cons_succ]
        clear hK K
        have HR3 := Lib.hid (HR2.out.put HFO.out)
        have hC3 : (fun w' => w'.cell? ⟨g, 0, none⟩ = some (.int .i64 x.kind) ∧ w'.cell? ⟨g, 1, none⟩ = some (.bool x.flag) ∧ w'.cell? ⟨g, 2, none⟩ = some (.int .i64 x.num) ∧ w'.cell? ⟨g, 3, none⟩ = some (.string x.text) ∧ w'.cell? ⟨g, 4, none⟩ = some (.slice Ak x.keys.length ck) ∧ w'.cell? ⟨g, 5, none⟩ = some (.slice Ac x.kids.length cc) ∧ w'.cell? ⟨g, 6, none⟩ = some (.string p)) (((w2.setCell ⟨g, 7, none⟩ (.int .i64 f1.code)).setCell ⟨g, 8, none⟩ (.int .i64 f1.at_)).setCell ⟨g, 9, none⟩ (.string f1.path)) := ⟨HR3.out.blk.cell (i := 0) (u := .int .i64 x.kind) rfl, HR3.out.blk.cell (i := 1) (u := .bool x.flag) rfl, HR3.out.blk.cell (i := 2) (u := .int .i64 x.num) rfl, HR3.out.blk.cell (i := 3) (u := .string x.text) rfl, HR3.out.blk.cell (i := 4) (u := .slice Ak x.keys.length ck) rfl, HR3.out.blk.cell (i := 5) (u := .slice Ac x.kids.length cc) rfl, HR3.out.blk.cell (i := 6) (u := .string p) rfl⟩
        refine anyH_one 17 (by rfl) (by kernel_rfl) (by rfl) (fun K hK => ?_)
        go_simp
        refine hK _ _ hC3 ?_
        try simp only [Act.put, List.setIfInBounds_toArray, List.set_cons_zero, List.set_cons_succ]
        clear hK K
        refine anyH_done (by kernel_rfl) ?_
        clear hC hC3 b7 b8 b9 bl2 bf2
        have HU3 := Lib.hid (((Upd.refl [g] w).drew.trans (Upd.of_ext [g] hb2)).trans (upd3 g w2 (.int .i64 f1.code) (.int .i64 f1.at_) (.string f1.path)))
        obtain ⟨w3, hw3⟩ : ∃ w3, ((w2.setCell ⟨g, 7, none⟩ (.int .i64 f1.code)).setCell ⟨g, 8, none⟩ (.int .i64 f1.at_)).setCell ⟨g, 9, none⟩ (.string f1.path) = w3 := ⟨_, rfl⟩
        rw [hw3] at HR3 HU3
        have HW3 := Lib.hid hw3
        clear hw3
        have c7 := HR3.out.blk.cell (i := 7) (u := .int .i64 f1.code) rfl
        have c6 := HR3.out.blk.cell (i := 6) (u := .string p) rfl
        have bl3 := HR3.out.blk.lt
        have bf3 := HR3.out.blk.fz
        rw [HW3.out]
        go_wp2_with (first
          | (go_at_call 55; refine (PathKey_impl p k _ hp hk).mono ?_; rintro e w5 ⟨rfl, rfl⟩)
          | (go_at_call 56; refine (fail_any g x Ak Ac ck cc F p f1 14 (pathR p k) _ HR4.out HQ.out).mono ?_; rw [HFL.out]; rintro e w6 ⟨rfl, hR6, hU6⟩)
          | (refine (HFN0.out s _ HSZ.out HU3.out).mono ?_; rw [HFN.out]; rintro e w4 ⟨rfl, hb4⟩; obtain ⟨hc4, hf4⟩ := bcell hb4; have HR4 := Lib.hid (HR3.out.ext hb4); have HU4 := Lib.hid (HU3.out.trans (Upd.of_ext [g] hb4)); have bl4 : g < w4.heap.size := (by have := hb4.size; omega)))
        go_ret
        exact ⟨by rw [HRS.out]; rfl, by rw [HRS.out]; exact hR6, HU4.out.trans hU6⟩
    · have hd1 : (f1.code == 0) = false := by simp [h1]
      have HRS := Lib.hid (show readT x p f k fine = (s, f1) by rw [HRT.out]; exact if_neg (fun hh => h1 hh.1))
      clear h1
      go_enter Tryz.func49, Tryz.ntmps49
      go_wp2_with fail
      refine wp_region_anyC (C := (fun w' => w'.cell? ⟨g, 0, none⟩ = some (.int .i64 x.kind) ∧ w'.cell? ⟨g, 1, none⟩ = some (.bool x.flag) ∧ w'.cell? ⟨g, 2, none⟩ = some (.int .i64 x.num) ∧ w'.cell? ⟨g, 3, none⟩ = some (.string x.text) ∧ w'.cell? ⟨g, 4, none⟩ = some (.slice Ak x.keys.length ck) ∧ w'.cell? ⟨g, 5, none⟩ = some (.slice Ac x.kids.length cc) ∧ w'.cell? ⟨g, 6, none⟩ = some (.string p))) 18 (by kernel_rfl) rfl ⟨HD.out.blk.cell (i := 0) (u := .int .i64 x.kind) rfl, HD.out.blk.cell (i := 1) (u := .bool x.flag) rfl, HD.out.blk.cell (i := 2) (u := .int .i64 x.num) rfl, HD.out.blk.cell (i := 3) (u := .string x.text) rfl, HD.out.blk.cell (i := 4) (u := .slice Ak x.keys.length ck) rfl, HD.out.blk.cell (i := 5) (u := .slice Ac x.kids.length cc) rfl, HD.out.blk.cell (i := 6) (u := .string p) rfl⟩ ?_
      have hC : (fun w' => w'.cell? ⟨g, 0, none⟩ = some (.int .i64 x.kind) ∧ w'.cell? ⟨g, 1, none⟩ = some (.bool x.flag) ∧ w'.cell? ⟨g, 2, none⟩ = some (.int .i64 x.num) ∧ w'.cell? ⟨g, 3, none⟩ = some (.string x.text) ∧ w'.cell? ⟨g, 4, none⟩ = some (.slice Ak x.keys.length ck) ∧ w'.cell? ⟨g, 5, none⟩ = some (.slice Ac x.kids.length cc) ∧ w'.cell? ⟨g, 6, none⟩ = some (.string p)) w.drew := ⟨HD.out.blk.cell (i := 0) (u := .int .i64 x.kind) rfl, HD.out.blk.cell (i := 1) (u := .bool x.flag) rfl, HD.out.blk.cell (i := 2) (u := .int .i64 x.num) rfl, HD.out.blk.cell (i := 3) (u := .string x.text) rfl, HD.out.blk.cell (i := 4) (u := .slice Ak x.keys.length ck) rfl, HD.out.blk.cell (i := 5) (u := .slice Ac x.kids.length cc) rfl, HD.out.blk.cell (i := 6) (u := .string p) rfl⟩
      refine anyH_take 0 _ (by rfl) (by kernel_rfl) (fun _ _ d _ _ h => by cases d <;> exact h) hC (Or.inl ⟨rfl, fun wq hq => by
        obtain ⟨y0, y1, y2, y3, y4, y5, y6⟩ := hq
        go_simp
        try rfl⟩) ?_
      simp only [Act.put, List.setIfInBounds_toArray, List.set_cons_zero, List.set_cons_succ]
      refine anyH_take 1 _ (by rfl) (by kernel_rfl) (fun _ _ d _ _ h => by cases d <;> exact h) hC (Or.inl ⟨rfl, fun wq hq => by
        obtain ⟨y0, y1, y2, y3, y4, y5, y6⟩ := hq
        go_simp
        try rfl⟩) ?_
      simp only [Act.put, List.setIfInBounds_toArray, List.set_cons_zero, List.set_cons_succ]
      refine anyH_take 2 _ (by rfl) (by kernel_rfl) (fun _ _ d _ _ h => by cases d <;> exact h) hC (Or.inl ⟨rfl, fun wq hq => by
        obtain ⟨y0, y1, y2, y3, y4, y5, y6⟩ := hq
        go_simp
        try rfl⟩) ?_
      simp only [Act.put, List.setIfInBounds_toArray, List.set_cons_zero, List.set_cons_succ]
      refine anyH_take 3 _ (by rfl) (by kernel_rfl) (fun _ _ d _ _ h => by cases d <;> exact h) hC (Or.inl ⟨rfl, fun wq hq => by
        obtain ⟨y0, y1, y2, y3, y4, y5, y6⟩ := hq
        go_simp
        try rfl⟩) ?_
      simp only [Act.put, List.setIfInBounds_toArray, List.set_cons_zero, List.set_cons_succ]
      refine anyH_take 4 _ (by rfl) (by kernel_rfl) (fun _ _ d _ _ h => by cases d <;> exact h) hC (Or.inl ⟨rfl, fun wq hq => by
        obtain ⟨y0, y1, y2, y3, y4, y5, y6⟩ := hq
        go_simp
        try rfl⟩) ?_
      simp only [Act.put, List.setIfInBounds_toArray, List.set_cons_zero, List.set_cons_succ]
      refine anyH_take 5 _ (by rfl) (by kernel_rfl) (fun _ _ d _ _ h => by cases d <;> exact h) hC (Or.inl ⟨rfl, fun wq hq => by
        obtain ⟨y0, y1, y2, y3, y4, y5, y6⟩ := hq
        go_simp
        try rfl⟩) ?_
      simp only [Act.put, List.setIfInBounds_toArray, List.set_cons_zero, List.set_cons_succ]
      refine anyH_take 6 _ (by rfl) (by kernel_rfl) (fun _ _ d _ _ h => by cases d <;> exact h) hC (Or.inl ⟨rfl, fun wq hq => by
        obtain ⟨y0, y1, y2, y3, y4, y5, y6⟩ := hq
        go_simp
        try rfl⟩) ?_
      simp only [Act.put, List.setIfInBounds_toArray, List.set_cons_zero, List.set_cons_succ]
      refine anyH_take 7 _ (by rfl) (by kernel_rfl) (fun _ _ d _ _ h => by cases d <;> exact h) hC (Or.inl ⟨rfl, fun wq hq => by
        obtain ⟨y0, y1, y2, y3, y4, y5, y6⟩ := hq
        go_simp
        try rfl⟩) ?_
      simp only [Act.put, List.setIfInBounds_toArray, List.set_cons_zero, List.set_cons_succ]
      refine anyH_take 8 _ (by rfl) (by kernel_rfl) (fun _ _ d _ _ h => by cases d <;> exact h) hC (Or.inl ⟨rfl, fun wq hq => by
        obtain ⟨y0, y1, y2, y3, y4, y5, y6⟩ := hq
        go_simp
        try rfl⟩) ?_
      simp only [Act.put, List.setIfInBounds_toArray, List.set_cons_zero, List.set_cons_succ]
      refine anyH_take 9 _ (by rfl) (by kernel_rfl) (fun _ _ d _ _ h => by cases d <;> exact h) hC (Or.inl ⟨rfl, fun wq hq => by
        obtain ⟨y0, y1, y2, y3, y4, y5, y6⟩ := hq
        go_simp
        try rfl⟩) ?_
      simp only [Act.put, List.setIfInBounds_toArray, List.set_cons_zero, List.set_cons_succ]
      refine anyH_one 10 (by rfl) (by kernel_rfl) (by rfl) (fun K hK => ?_)
      go_simp
      refine (HT.out w.drew (ext_refl _)).mono ?_
      rintro e w2 ⟨rfl, hb2⟩
      have HR2 := Lib.hid (HD.out.ext hb2)
      replace hC : (fun w' => w'.cell? ⟨g, 0, none⟩ = some (.int .i64 x.kind) ∧ w'.cell? ⟨g, 1, none⟩ = some (.bool x.flag) ∧ w'.cell? ⟨g, 2, none⟩ = some (.int .i64 x.num) ∧ w'.cell? ⟨g, 3, none⟩ = some (.string x.text) ∧ w'.cell? ⟨g, 4, none⟩ = some (.slice Ak x.keys.length ck) ∧ w'.cell? ⟨g, 5, none⟩ = some (.slice Ac x.kids.length cc) ∧ w'.cell? ⟨g, 6, none⟩ = some (.string p)) w2 := ⟨HR2.out.blk.cell (i := 0) (u := .int .i64 x.kind) rfl, HR2.out.blk.cell (i := 1) (u := .bool x.flag) rfl, HR2.out.blk.cell (i := 2) (u := .int .i64 x.num) rfl, HR2.out.blk.cell (i := 3) (u := .string x.text) rfl, HR2.out.blk.cell (i := 4) (u := .slice Ak x.keys.length ck) rfl, HR2.out.blk.cell (i := 5) (u := .slice Ac x.kids.length cc) rfl, HR2.out.blk.cell (i := 6) (u := .string p) rfl⟩
      refine hK _ _ hC ?_
      try simp only [Act.put, List.setIfInBounds_toArray, List.set_cons_zero, List.set_cons_succ]
      clear hK K
      refine anyH_one 11 (by rfl) (by kernel_rfl) (by rfl) (fun K hK => ?_)
      go_simp
      refine hK _ _ hC ?_
      try simp only [Act.put, List.setIfInBounds_toArray, List.set_cons_zero, List.set_cons_succ]
      clear hK K
      refine anyH_take 12 _ (by rfl) (by kernel_rfl) (fun _ _ d _ _ h => by cases d <;> exact h) hC (Or.inl ⟨rfl, fun wq hq => by
        obtain ⟨y0, y1, y2, y3, y4, y5, y6⟩ := hq
        go_simp
        try rfl⟩) ?_
      simp only [Act.put, List.setIfInBounds_toArray, List.set_cons_zero, List.set_cons_succ]
      refine anyH_take 13 _ (by rfl) (by kernel_rfl) (fun _ _ d _ _ h => by cases d <;> exact h) hC (Or.inl ⟨rfl, fun wq hq => by
        obtain ⟨y0, y1, y2, y3, y4, y5, y6⟩ := hq
        go_simp
        try rfl⟩) ?_
      simp only [Act.put, List.setIfInBounds_toArray, List.set_cons_zero, List.set_cons_succ]
      refine anyH_one 14 (by rfl) (by kernel_rfl) (by rfl) (fun K hK => ?_)
      go_simp
      refine hK _ _ hC ?_
      try simp only [Act.put, List.setIfInBounds_toArray, List.set_cons_zero, List.set_cons_succ]
      clear hK K
      have b7 := HR2.out.blk.cell (i := 7) (u := .int .i64 f.code) rfl
      have b8 := HR2.out.blk.cell (i := 8) (u := .int .i64 f.at_) rfl
      have b9 := HR2.out.blk.cell (i := 9) (u := .string f.path) rfl
      have bl2 := HR2.out.blk.lt
      have bf2 := HR2.out.blk.fz
      refine anyH_one 15 (by rfl) (by kernel_rfl) (by rfl) (fun K hK => ?_)
      go_simp
      refine hK _ _ hC ?_
      try simp only [Act.put, List.setIfInBounds_toArray, List.set_cons_zero, List.set_cons_succ]
      clear hK K
      refine anyH_one 16 (by rfl) (by kernel_rfl) (by rfl) (fun K hK => ?_)
      go_simp
      refine hK _ _ hC ?_
      try simp only [Act.put, List.setIfInBounds_toArray, List.set_cons_zero, List.set_cons_succ]
      clear hK K
      have HR3 := Lib.hid (HR2.out.put HFO.out)
      have hC3 : (fun w' => w'.cell? ⟨g, 0, none⟩ = some (.int .i64 x.kind) ∧ w'.cell? ⟨g, 1, none⟩ = some (.bool x.flag) ∧ w'.cell? ⟨g, 2, none⟩ = some (.int .i64 x.num) ∧ w'.cell? ⟨g, 3, none⟩ = some (.string x.text) ∧ w'.cell? ⟨g, 4, none⟩ = some (.slice Ak x.keys.length ck) ∧ w'.cell? ⟨g, 5, none⟩ = some (.slice Ac x.kids.length cc) ∧ w'.cell? ⟨g, 6, none⟩ = some (.string p)) (((w2.setCell ⟨g, 7, none⟩ (.int .i64 f1.code)).setCell ⟨g, 8, none⟩ (.int .i64 f1.at_)).setCell ⟨g, 9, none⟩ (.string f1.path)) := ⟨HR3.out.blk.cell (i := 0) (u := .int .i64 x.kind) rfl, HR3.out.blk.cell (i := 1) (u := .bool x.flag) rfl, HR3.out.blk.cell (i := 2) (u := .int .i64 x.num) rfl, HR3.out.blk.cell (i := 3) (u := .string x.text) rfl, HR3.out.blk.cell (i := 4) (u := .slice Ak x.keys.length ck) rfl, HR3.out.blk.cell (i := 5) (u := .slice Ac x.kids.length cc) rfl, HR3.out.blk.cell (i := 6) (u := .string p) rfl⟩
      refine anyH_one 17 (by rfl) (by kernel_rfl) (by rfl) (fun K hK => ?_)
      go_simp
      refine hK _ _ hC3 ?_
      try simp only [Act.put, List.setIfInBounds_toArray, List.set_cons_zero, List.set_cons_succ]
      clear hK K
      refine anyH_done (by kernel_rfl) ?_
      clear hC hC3 b7 b8 b9 bl2 bf2
      have HU3 := Lib.hid (((Upd.refl [g] w).drew.trans (Upd.of_ext [g] hb2)).trans (upd3 g w2 (.int .i64 f1.code) (.int .i64 f1.at_) (.string f1.path)))
      obtain ⟨w3, hw3⟩ : ∃ w3, ((w2.setCell ⟨g, 7, none⟩ (.int .i64 f1.code)).setCell ⟨g, 8, none⟩ (.int .i64 f1.at_)).setCell ⟨g, 9, none⟩ (.string f1.path) = w3 := ⟨_, rfl⟩
      rw [hw3] at HR3 HU3
      have HW3 := Lib.hid hw3
      clear hw3
      have c7 := HR3.out.blk.cell (i := 7) (u := .int .i64 f1.code) rfl
      have c6 := HR3.out.blk.cell (i := 6) (u := .string p) rfl
      have bl3 := HR3.out.blk.lt
      have bf3 := HR3.out.blk.fz
      rw [HW3.out]
      go_wp2
      go_ret
      exact ⟨by rw [HRS.out]; rfl, by rw [HRS.out]; exact HR3.out, HU3.out⟩
  · have hd : (f.code != 0) = true := by simp [h0]
    have HRT := Lib.hid (show readT x p f k fine = (⟨#[]⟩, f) by unfold readT; exact if_neg h0)
    clear h0
    go_enter Tryz.func49, Tryz.ntmps49
    go_wp2
    go_ret
    exact ⟨by rw [HRT.out]; rfl, by rw [HRT.out]; exact HR.out, .refl _ _⟩
end Go.Proofs.YtegekccoincicaaGreatDoor
