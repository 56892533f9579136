/- The program's reader of fields. No condition. -/
import Derived.Test.YtegekccoincicaaGreatDoorTreeG
namespace Go.Proofs.YtegekccoincicaaGreatDoor
open Dat (rd)
open Go.ChangeShapes Go.WideShapes Go.ChangeAt Go.RowKit
set_option linter.unusedVariables false
set_option linter.unusedSimpArgs false

theorem wp_region_anyC {P : Program} {l : List Oper} {C : World → Prop} {Q : Exit → Act → World → Prop} {id : Nat} {a : Act} {w : World} (n : Nat) (hm : P.follows .mixedOrders = true) (hn : l.toArray.size = n) (hw : C w.drew)
    (h : AnyH P l Q C n (Array.replicate n false) a w.drew) : (Code.region id l.toArray true).wp P Q a w := by
  subst hn
  exact wp_region_held_drew (S := C) hm hw fun _ => h
/-- the reader lies in block g: the tree, its path, the first fault -/
structure RS (w : World) (g : Nat) (x : Tree) (Ak Ac : Option Addr) (ck cc : Nat) (F : List Nat) (p : ByteArray) (f : Fault) : Prop where
  blk : Blk w g [.int .i64 x.kind, .bool x.flag, .int .i64 x.num, .string x.text, .slice Ak x.keys.length ck, .slice Ac x.kids.length cc, .string p, .int .i64 f.code, .int .i64 f.at_, .string f.path]
  rd : Go.Proofs.YtegekccoincicaaGreatDoor.Dat.rd w x [.int .i64 x.kind, .bool x.flag, .int .i64 x.num, .string x.text, .slice Ak x.keys.length ck, .slice Ac x.kids.length cc] F
  nin : g ∉ F
  fi : FOk f 4194304
section
variable {w w' : World} {g : Nat} {x : Tree} {Ak Ac : Option Addr} {ck cc : Nat} {F : List Nat} {p : ByteArray} {f f' : Fault}
theorem RS.ext (h : RS w g x Ak Ac ck cc F p f) (hb : Below w.heap.size w w') : RS w' g x Ak Ac ck cc F p f := ⟨h.blk.ext hb, rd_extK h.rd hb, h.nin, h.fi⟩
theorem RS.put (h : RS w g x Ak Ac ck cc F p f) (hf : FOk f' 4194304) : RS (((w.setCell ⟨g, 7, none⟩ (.int .i64 f'.code)).setCell ⟨g, 8, none⟩ (.int .i64 f'.at_)).setCell ⟨g, 9, none⟩ (.string f'.path)) g x Ak Ac ck cc F p f' :=
  ⟨((h.blk.put 7 (.int .i64 f'.code)).put 8 (.int .i64 f'.at_)).put 9 (.string f'.path), Dat.frame h.rd (fun b hb => by
    have hne : b ≠ g := fun e => h.nin (e ▸ hb)
    rw [Below.heap_setCell _ _ _ _ (by exact hne), Below.heap_setCell _ _ _ _ (by exact hne), Below.heap_setCell _ _ _ _ (by exact hne)]) (by simp [World.setCell]), h.nin, hf⟩
theorem upd3 (g : Nat) (w : World) (a b c : Value) : Upd [g] w (((w.setCell ⟨g, 7, none⟩ a).setCell ⟨g, 8, none⟩ b).setCell ⟨g, 9, none⟩ c) := (((Upd.refl [g] w).setCell (by simp) a).setCell (by simp) b).setCell (by simp) c
end
def failR (f : Fault) (c : Int) (q : ByteArray) : Fault := if f.code = 0 then fl c q else f
set_option maxHeartbeats 1000000 in
theorem fail_any (g : Nat) (x : Tree) (Ak Ac : Option Addr) (ck cc : Nat) (F : List Nat) (p : ByteArray) (f : Fault) (c : Int) (q : ByteArray) (w : World) (h : RS w g x Ak Ac ck cc F p f) (hq : FOk (fl c q) 4194304) :
    Calls Tryz.prog 56 #[.pointer (some ⟨g, 0, none⟩), .int .i64 c, .string q] w fun e w' => e = .returned (.tuple #[]) ∧ RS w' g x Ak Ac ck cc F p (failR f c q) ∧ Upd [g] w w' := by
  have HR := Lib.hid h
  have b7 := h.blk.cell (i := 7) (u := .int .i64 f.code) rfl
  have b8 := h.blk.cell (i := 8) (u := .int .i64 f.at_) rfl
  have b9 := h.blk.cell (i := 9) (u := .string f.path) rfl
  have bl := h.blk.lt
  have bf := h.blk.fz
  have HP := Lib.hid (h.put hq)
  clear h hq
  by_cases h0 : f.code = 0
  · have hd : (f.code == 0) = true := by simp [h0]
    have HF := Lib.hid (show failR f c q = fl c q by unfold failR; exact if_pos h0)
    clear h0
    go_enter Tryz.func56, Tryz.ntmps56
    go_wp2
    go_returns
    refine ⟨rfl, ?_, upd3 g w _ _ _⟩
    rw [HF.out]
    exact HP.out
  · have hd : (f.code == 0) = false := by simp [h0]
    have HF := Lib.hid (show failR f c q = f by unfold failR; exact if_neg h0)
    clear h0
    go_enter Tryz.func56, Tryz.ntmps56
    go_wp2
    go_returns
    refine ⟨rfl, ?_, .refl _ _⟩
    rw [HF.out]
    exact HR.out
set_option maxRecDepth 100000 in
set_option maxHeartbeats 2000000 in
theorem known_any (g : Nat) (x : Tree) (Ak Ac : Option Addr) (ck cc : Nat) (F : List Nat) (p : ByteArray) (f : Fault) (ks : List ByteArray) (A : Option Addr) (n c : Nat) (G : List Nat) (w : World) (h : RS w g x Ak Ac ck cc F p f) (hs : Sl w ks A c G) (hn : n = ks.length) (hw : (x.wt : Int) ≤ 1048576) (hp : (p.size : Int) ≤ 1048576) (hkl : (ks.length : Int) ≤ 1048576) :
    Calls Tryz.prog 48 #[.pointer (some ⟨g, 0, none⟩), .slice A n c] w fun e w' => e = .returned (.tuple #[]) ∧ RS w' g x Ak Ac ck cc F p (knownR x p ks) ∧ Upd [g] w w' := by
  have HD := Lib.hid (h.ext (ext_drew (ext_refl w)))
  have HC := Lib.hid (fun wq (hq : Below w.drew.heap.size w.drew wq) => KnownKeys_impl x _ _ p ks A n c G wq (rd_extK h.rd (ext_trans (ext_drew (ext_refl w)) hq)) (hs.ext (ext_trans (ext_drew (ext_refl w)) hq)) hn hw hp hkl)
  have HFO := Lib.hid (show FOk (knownR x p ks) 4194304 by have h1 := knownR_ok x p ks; obtain ⟨a1, a2, a3, a4⟩ := h1; exact ⟨a1, a2, a3, by omega⟩)
  obtain ⟨f1, hf1⟩ : ∃ f1, knownR x p ks = f1 := ⟨_, rfl⟩
  rw [hf1] at HC HFO ⊢
  clear hf1 h hs hn hw hp hkl
  have x0 : (fun w' => w'.cell? ⟨g, 0, none⟩ = some (.int .i64 x.kind) ∧ w'.cell? ⟨g, 1, none⟩ = some (.bool x.flag) ∧ w'.cell? ⟨g, 2, none⟩ = some (.int .i64 x.num) ∧ w'.cell? ⟨g, 3, none⟩ = some (.string x.text) ∧ w'.cell? ⟨g, 4, none⟩ = some (.slice Ak x.keys.length ck) ∧ w'.cell? ⟨g, 5, none⟩ = some (.slice Ac x.kids.length cc) ∧ w'.cell? ⟨g, 6, none⟩ = some (.string p)) w.drew := ⟨HD.out.blk.cell (i := 0) (u := .int .i64 x.kind) rfl, HD.out.blk.cell (i := 1) (u := .bool x.flag) rfl, HD.out.blk.cell (i := 2) (u := .int .i64 x.num) rfl, HD.out.blk.cell (i := 3) (u := .string x.text) rfl, HD.out.blk.cell (i := 4) (u := .slice Ak x.keys.length ck) rfl, HD.out.blk.cell (i := 5) (u := .slice Ac x.kids.length cc) rfl, HD.out.blk.cell (i := 6) (u := .string p) rfl⟩
  go_enter Tryz.func48, Tryz.ntmps48
  go_wp2_with fail
  refine wp_region_cut (fun w' => w'.cell? ⟨g, 0, none⟩ = some (.int .i64 x.kind) ∧ w'.cell? ⟨g, 1, none⟩ = some (.bool x.flag) ∧ w'.cell? ⟨g, 2, none⟩ = some (.int .i64 x.num) ∧ w'.cell? ⟨g, 3, none⟩ = some (.string x.text) ∧ w'.cell? ⟨g, 4, none⟩ = some (.slice Ak x.keys.length ck) ∧ w'.cell? ⟨g, 5, none⟩ = some (.slice Ac x.kids.length cc) ∧ w'.cell? ⟨g, 6, none⟩ = some (.string p)) [0, 1, 2, 3, 4, 5, 6, 7, 8, 9] [10] [11, 12, 13] (by kernel_rfl) (by kernel_rfl) (fun _ _ d _ _ h => by cases d <;> exact h) x0 ?_
  clear x0
  obtain ⟨wd, hwd⟩ : ∃ wd, w.drew = wd := ⟨_, rfl⟩
  have hb0 : Upd [g] w wd := by rw [← hwd]; exact (Upd.refl [g] w).drew
  rw [hwd] at HD HC ⊢
  clear hwd
  simp only [pick, List.getElem?_cons_succ, List.getElem?_cons_zero]
  iterate 10
    (apply headC_step
     case hy =>
       refine Or.inl ⟨rfl, fun wq hq => ?_⟩
       obtain ⟨y0, y1, y2, y3, y4, y5, y6⟩ := hq
       go_simp
       try rfl
     simp only [Act.put, List.setIfInBounds_toArray, List.set_cons_zero, List.set_cons_succ])
  refine headC_nil ?_
  refine wpListK_step rfl (fun K hK => ?_)
  go_simp
  refine (HC.out wd (ext_refl _)).mono ?_
  rintro e w2 ⟨rfl, hb2⟩
  have HR := Lib.hid (HD.out.ext hb2)
  have x0 : (fun w' => w'.cell? ⟨g, 0, none⟩ = some (.int .i64 x.kind) ∧ w'.cell? ⟨g, 1, none⟩ = some (.bool x.flag) ∧ w'.cell? ⟨g, 2, none⟩ = some (.int .i64 x.num) ∧ w'.cell? ⟨g, 3, none⟩ = some (.string x.text) ∧ w'.cell? ⟨g, 4, none⟩ = some (.slice Ak x.keys.length ck) ∧ w'.cell? ⟨g, 5, none⟩ = some (.slice Ac x.kids.length cc) ∧ w'.cell? ⟨g, 6, none⟩ = some (.string p)) w2 := ⟨HR.out.blk.cell (i := 0) (u := .int .i64 x.kind) rfl, HR.out.blk.cell (i := 1) (u := .bool x.flag) rfl, HR.out.blk.cell (i := 2) (u := .int .i64 x.num) rfl, HR.out.blk.cell (i := 3) (u := .string x.text) rfl, HR.out.blk.cell (i := 4) (u := .slice Ak x.keys.length ck) rfl, HR.out.blk.cell (i := 5) (u := .slice Ac x.kids.length cc) rfl, HR.out.blk.cell (i := 6) (u := .string p) rfl⟩
  refine hK _ _ x0 ?_
  try simp only [Act.put, List.setIfInBounds_toArray, List.set_cons_zero, List.set_cons_succ]
  clear hK K x0
  have b7 := HR.out.blk.cell (i := 7) (u := .int .i64 f.code) rfl
  have b8 := HR.out.blk.cell (i := 8) (u := .int .i64 f.at_) rfl
  have b9 := HR.out.blk.cell (i := 9) (u := .string f.path) rfl
  have bl := HR.out.blk.lt
  have bf := HR.out.blk.fz
  refine wpListK_nil ?_
  go_wp2
  go_returns
  exact ⟨rfl, HR.out.put HFO.out, (hb0.trans (Upd.of_ext [g] hb2)).trans (upd3 g w2 _ _ _)⟩
end Go.Proofs.YtegekccoincicaaGreatDoor
