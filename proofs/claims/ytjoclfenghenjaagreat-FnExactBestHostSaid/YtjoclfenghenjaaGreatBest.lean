/- BestHost, of the program and of the reference. No condition. -/
import Derived.Test.YtjoclfenghenjaaGreatRank1
import Derived.Test.YtjoclfenghenjaaGreatRankZ
namespace Go.Proofs.YtjoclfenghenjaaGreat
open Go.ChangeShapes Go.WideShapes Go.ChangeAt Go.RowKit
set_option linter.unusedVariables false
set_option linter.unusedSimpArgs false

def bestS (x : Cluster) (p : Pod) : ByteArray := (rankL x p).headD ⟨#[]⟩
def bestB (x : Cluster) (p : Pod) : Bool := !(rankL x p).isEmpty
set_option maxRecDepth 100000 in
set_option maxHeartbeats 4000000 in
theorem BestHost_impl (x : Cluster) (p : Pod) (cs ps : List Value) (F G : List Nat) (w : World) (h : rd w x cs F) (h' : rd w p ps G) (hw : (x.wt : Int) ≤ 1048576) (hw' : (p.wt : Int) ≤ 1048576) :
    Calls Tryz.prog 30 #[.agg cs.toArray, .agg ps.toArray] w fun e w' => e = .returned (.tuple #[.string (bestS x p), .bool (bestB x p)]) ∧ Below w.heap.size w w' := by
  have HW := Lib.hid hw
  have HWP := Lib.hid hw'
  clear hw hw'
  have hr := h
  have hr' := h'
  obtain ⟨Ahosts, chosts, Fhosts, Apods, cpods, Fpods, hck, hF, hhosts, hpods, hnext, hweightspack, hweightsspread, hweightssoft⟩ := rd_Cluster hr
  obtain ⟨Alabels2, clabels2, Flabels2, Aneeds2, cneeds2, Fneeds2, Atolerances2, ctolerances2, Ftolerances2, hck2, hG, hname2, hlabels2, hcpu2, hmem2, hrank2, hneeds2, htolerances2⟩ := rd_Pod hr'
  subst hck hck2
  clear hF hG hr hr'
  have HB := Lib.hid (show ∀ l, rankL x p = l → bestS x p = l.headD ⟨#[]⟩ ∧ bestB x p = !l.isEmpty from fun l hl => by unfold bestS bestB; rw [hl]; exact ⟨rfl, rfl⟩)
  go_enter Tryz.func30, Tryz.ntmps30
  go_wp2_with fail
  refine (RankingOf_impl x p _ _ _ _ _ (rd_extT h (by repeat (first | with_reducible exact ext_refl _ | with_reducible assumption | with_reducible refine ext_alloc ?_ _ | with_reducible refine ext_drew ?_ | with_reducible refine ext_trans ?_ (by assumption)))) (rd_extT h' (by repeat (first | with_reducible exact ext_refl _ | with_reducible assumption | with_reducible refine ext_alloc ?_ _ | with_reducible refine ext_drew ?_ | with_reducible refine ext_trans ?_ (by assumption)))) HW.out HWP.out).mono ?_
  rintro e w1 ⟨A, c, G1, rfl, hO, hb1⟩
  have hBB : Below w.heap.size w w1 := ext_trans (by repeat (first | with_reducible exact ext_refl _ | with_reducible assumption | with_reducible refine ext_alloc ?_ _ | with_reducible refine ext_drew ?_ | with_reducible refine ext_trans ?_ (by assumption))) hb1
  obtain ⟨l, hl⟩ : ∃ l, rankL x p = l := ⟨_, rfl⟩
  rw [hl] at hO ⊢
  have HL := Lib.hid (HB.out l hl)
  clear hl
  cases l with
  | nil =>
    simp only [List.length_nil] at hO ⊢
    go_wp2
    go_ret2
    exact ⟨by rw [HL.out.1, HL.out.2]; rfl, hBB⟩
  | cons y ys =>
    have hlt : (0 : Nat) < (y :: ys).length := by simp
    obtain ⟨b, o, ck, Fk, hA, hbG, hbs, hrdk, _, hcells⟩ := Sl.get hO.rd hlt
    subst hA
    obtain ⟨hck, hFk, hsz⟩ := hrdk
    subst hck
    have hyc : w1.cell? ⟨b, o, none⟩ = some (.string y) := by have := hcells 0 _ rfl; simpa using this
    have hne : (((y :: ys).length : Int) == 0) = false := by simp; omega
    clear hcells hO hsz
    obtain ⟨n, hn⟩ : ∃ n, (y :: ys).length = n := ⟨_, rfl⟩
    rw [hn] at hlt hne ⊢
    clear hn
    go_wp2
    go_ret2
    exact ⟨by rw [HL.out.1, HL.out.2]; rfl, hBB⟩
set_option maxRecDepth 100000 in
set_option maxHeartbeats 4000000 in
theorem BestHost_spec (x : Cluster) (p : Pod) (cs ps : List Value) (F G : List Nat) (w : World) (h : rd w x cs F) (h' : rd w p ps G) (hw : (x.wt : Int) ≤ 1048576) (hw' : (p.wt : Int) ≤ 1048576) :
    Calls Tryz.prog 29 #[.agg cs.toArray, .agg ps.toArray] w fun e w' => e = .returned (.tuple #[.string (bestS x p), .bool (bestB x p)]) ∧ Below w.heap.size w w' := by
  have HW := Lib.hid hw
  have HWP := Lib.hid hw'
  clear hw hw'
  have hr := h
  have hr' := h'
  obtain ⟨Ahosts, chosts, Fhosts, Apods, cpods, Fpods, hck, hF, hhosts, hpods, hnext, hweightspack, hweightsspread, hweightssoft⟩ := rd_Cluster hr
  obtain ⟨Alabels2, clabels2, Flabels2, Aneeds2, cneeds2, Fneeds2, Atolerances2, ctolerances2, Ftolerances2, hck2, hG, hname2, hlabels2, hcpu2, hmem2, hrank2, hneeds2, htolerances2⟩ := rd_Pod hr'
  subst hck hck2
  clear hF hG hr hr'
  have HB := Lib.hid (show ∀ l, rankL x p = l → bestS x p = l.headD ⟨#[]⟩ ∧ bestB x p = !l.isEmpty from fun l hl => by unfold bestS bestB; rw [hl]; exact ⟨rfl, rfl⟩)
  go_enter Tryz.func29, Tryz.ntmps29
  go_wp2_with fail
  refine (RankingOf_spec x p _ _ _ _ _ (rd_extT h (by repeat (first | with_reducible exact ext_refl _ | with_reducible assumption | with_reducible refine ext_alloc ?_ _ | with_reducible refine ext_drew ?_ | with_reducible refine ext_trans ?_ (by assumption)))) (rd_extT h' (by repeat (first | with_reducible exact ext_refl _ | with_reducible assumption | with_reducible refine ext_alloc ?_ _ | with_reducible refine ext_drew ?_ | with_reducible refine ext_trans ?_ (by assumption)))) HW.out HWP.out).mono ?_
  rintro e w1 ⟨A, c, G1, rfl, hO, hb1⟩
  have hBB : Below w.heap.size w w1 := ext_trans (by repeat (first | with_reducible exact ext_refl _ | with_reducible assumption | with_reducible refine ext_alloc ?_ _ | with_reducible refine ext_drew ?_ | with_reducible refine ext_trans ?_ (by assumption))) hb1
  obtain ⟨l, hl⟩ : ∃ l, rankL x p = l := ⟨_, rfl⟩
  rw [hl] at hO ⊢
  have HL := Lib.hid (HB.out l hl)
  clear hl
  cases l with
  | nil =>
    simp only [List.length_nil] at hO ⊢
    go_wp2
    go_ret2
    exact ⟨by rw [HL.out.1, HL.out.2]; rfl, hBB⟩
  | cons y ys =>
    have hlt : (0 : Nat) < (y :: ys).length := by simp
    obtain ⟨b, o, ck, Fk, hA, hbG, hbs, hrdk, _, hcells⟩ := Sl.get hO.rd hlt
    subst hA
    obtain ⟨hck, hFk, hsz⟩ := hrdk
    subst hck
    have hyc : w1.cell? ⟨b, o, none⟩ = some (.string y) := by have := hcells 0 _ rfl; simpa using this
    have hne : (((y :: ys).length : Int) == 0) = false := by simp; omega
    clear hcells hO hsz
    obtain ⟨n, hn⟩ : ∃ n, (y :: ys).length = n := ⟨_, rfl⟩
    rw [hn] at hlt hne ⊢
    clear hn
    go_wp2
    go_ret2
    exact ⟨by rw [HL.out.1, HL.out.2]; rfl, hBB⟩
end Go.Proofs.YtjoclfenghenjaaGreat
