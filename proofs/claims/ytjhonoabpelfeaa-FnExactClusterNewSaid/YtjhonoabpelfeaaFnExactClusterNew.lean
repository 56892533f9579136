/- FnExactClusterNew: the program's ClusterNew and the reference's answer the same cluster, in memory of its own at each call. No condition. -/
import Derived.Test.YtjhonoabpelfeaaMtCluster
import Derived.Test.YtjhonoabpelfeaaEq
namespace Go.Proofs.Ytjhonoabpelfeaa.fnExactClusterNew
open Go.ChangeShapes Go.WideShapes Go.ChangeAt Go.RowKit
set_option linter.unusedVariables false
set_option linter.unusedSimpArgs false
def z : Cluster := { hosts := [], pods := [], next := 1, weights := { pack := 2, spread := 1, soft := 3 } }
theorem zrd (w : World) : Own w 0 z [.slice none 0 0, .slice none 0 0, .int .i64 1, .int .i64 2, .int .i64 1, .int .i64 3] [] :=
  .flat (rd_pair (Sl.nil w none 0 (Nat.zero_le _)) (rd_pair (Sl.nil w none 0 (Nat.zero_le _)) (rd_pair (rdInt w 1 (by unfold I64; omega)) (rd_Weights_mk w z.weights ⟨by decide, by decide⟩ ⟨by decide, by decide⟩ ⟨by decide, by decide⟩))))
theorem new_spec (w : World) : Calls Try.prog 18 #[] w fun e w' => e = .returned (.agg #[.slice none 0 0, .slice none 0 0, .int .i64 1, .int .i64 2, .int .i64 1, .int .i64 3]) ∧ Below w.heap.size w w' := by
  go_enter Try.func18, Try.ntmps18
  go_wp2
  refine bodyPost_ret (v := .agg #[.slice none 0 0, .slice none 0 0, .int .i64 1, .int .i64 2, .int .i64 1, .int .i64 3]) (by simp [results, Try.results18, go_sem, *]) rfl ⟨rfl, (by repeat (first | with_reducible exact ext_refl _ | with_reducible assumption | with_reducible refine ext_alloc ?_ _ | with_reducible refine ext_trans ?_ (by assumption)))⟩
theorem new_impl (w : World) : Calls Try.prog 19 #[] w fun e w' => e = .returned (.agg #[.slice none 0 0, .slice none 0 0, .int .i64 1, .int .i64 2, .int .i64 1, .int .i64 3]) ∧ Below w.heap.size w w' := by
  go_enter Try.func19, Try.ntmps19
  go_wp2
  refine bodyPost_ret (v := .agg #[.slice none 0 0, .slice none 0 0, .int .i64 1, .int .i64 2, .int .i64 1, .int .i64 3]) (by simp [results, Try.results19, go_sem, *]) rfl ⟨rfl, (by repeat (first | with_reducible exact ext_refl _ | with_reducible assumption | with_reducible refine ext_alloc ?_ _ | with_reducible refine ext_trans ?_ (by assumption)))⟩

set_option maxRecDepth 100000 in
set_option maxHeartbeats 2000000 in
theorem walk (w : World) : Calls Try.prog 5 #[] w fun e w' => e = .returned (.bool true) ∧ Below w.heap.size w w' := by
  have hzz : eqCluster z z = true := (eqCluster_iff z z).2 rfl
  have hc0 : (cntTopCluster z : Int) = 0 := rfl
  go_enter Try.func5, Try.ntmps5
  go_wp2_with fail
  refine (new_spec _).mono ?_
  rintro e w1 ⟨rfl, hb1⟩
  obtain ⟨hc1, hf1⟩ := bcell hb1
  go_wp2_with fail
  refine (new_impl _).mono ?_
  rintro e w2 ⟨rfl, hb2⟩
  obtain ⟨hc2, hf2⟩ := bcell hb2
  have hz1_2 : w1.heap.size < w2.heap.size := by have := hb2.size; (try simp at this); omega
  go_wp2_with fail
  refine (eqCluster_any z z [.slice none 0 0, .slice none 0 0, .int .i64 1, .int .i64 2, .int .i64 1, .int .i64 3] [.slice none 0 0, .slice none 0 0, .int .i64 1, .int .i64 2, .int .i64 1, .int .i64 3] [] [] _ (zrd _).rd (zrd _).rd).mono ?_
  rintro e w3 ⟨rfl, hb3⟩
  obtain ⟨hc3, hf3⟩ := bcell hb3
  have hz1_3 : w1.heap.size < w3.heap.size := by have := hb3.size; (try simp at this); omega
  have hz2_3 : w2.heap.size < w3.heap.size := by have := hb3.size; (try simp at this); omega
  rw [hzz]
  go_wp2_with fail
  refine (markCluster_any z [.slice none 0 0, .slice none 0 0, .int .i64 1, .int .i64 2, .int .i64 1, .int .i64 3] [] 0 1 _ (zrd _) (by omega) (by omega)).mono ?_
  rintro e w4 ⟨rfl, _, hu4⟩
  rw [hc0]
  have hb4 := hu4.below (B := _) (fun b hb => by cases hb) (Nat.le_refl _)
  obtain ⟨hc4, hf4⟩ := bcell hb4
  have hz1_4 : w1.heap.size < w4.heap.size := by have := hb4.size; (try simp at this); omega
  have hz2_4 : w2.heap.size < w4.heap.size := by have := hb4.size; (try simp at this); omega
  go_wp2_with fail
  refine (heldCluster_any z [.slice none 0 0, .slice none 0 0, .int .i64 1, .int .i64 2, .int .i64 1, .int .i64 3] [] 1 _ (zrd _).rd rfl (by omega) (by omega)).mono ?_
  rintro e w5 ⟨rfl, hb5⟩
  obtain ⟨hc5, hf5⟩ := bcell hb5
  have hz1_5 : w1.heap.size < w5.heap.size := by have := hb5.size; (try simp at this); omega
  have hz2_5 : w2.heap.size < w5.heap.size := by have := hb5.size; (try simp at this); omega
  rw [hc0]
  go_wp2_with fail
  refine (new_impl _).mono ?_
  rintro e w6 ⟨rfl, hb6⟩
  obtain ⟨hc6, hf6⟩ := bcell hb6
  have hz1_6 : w1.heap.size < w6.heap.size := by have := hb6.size; (try simp at this); omega
  have hz2_6 : w2.heap.size < w6.heap.size := by have := hb6.size; (try simp at this); omega
  go_wp2_with fail
  refine (eqCluster_any z z [.slice none 0 0, .slice none 0 0, .int .i64 1, .int .i64 2, .int .i64 1, .int .i64 3] [.slice none 0 0, .slice none 0 0, .int .i64 1, .int .i64 2, .int .i64 1, .int .i64 3] [] [] _ (zrd _).rd (zrd _).rd).mono ?_
  rintro e w7 ⟨rfl, hb7⟩
  obtain ⟨hc7, hf7⟩ := bcell hb7
  have hz1_7 : w1.heap.size < w7.heap.size := by have := hb7.size; (try simp at this); omega
  have hz2_7 : w2.heap.size < w7.heap.size := by have := hb7.size; (try simp at this); omega
  have hz6_7 : w6.heap.size < w7.heap.size := by have := hb7.size; (try simp at this); omega
  rw [hzz]
  go_wp2_with fail
  refine (heldCluster_any z [.slice none 0 0, .slice none 0 0, .int .i64 1, .int .i64 2, .int .i64 1, .int .i64 3] [] 1 _ (zrd _).rd rfl (by omega) (by omega)).mono ?_
  rintro e w8 ⟨rfl, hb8⟩
  obtain ⟨hc8, hf8⟩ := bcell hb8
  have hz1_8 : w1.heap.size < w8.heap.size := by have := hb8.size; (try simp at this); omega
  have hz2_8 : w2.heap.size < w8.heap.size := by have := hb8.size; (try simp at this); omega
  have hz6_8 : w6.heap.size < w8.heap.size := by have := hb8.size; (try simp at this); omega
  rw [hc0]
  go_wp2_with fail
  go_ret
  exact ⟨rfl, (by repeat (first | with_reducible exact ext_refl _ | with_reducible assumption | with_reducible refine ext_alloc ?_ _ | with_reducible refine ext_trans ?_ (by assumption)))⟩

theorem law_walk {H : Type} {enc : TypeId × Value → H} (W : World) (base : Nat) (args : Array Value) (ds : List (DataW H)) (p : List MemPlace)
    (hval : ∀ (j : Nat) t v, Try.f5.params[j]? = some t → args[j]? = some v → Value.okWide Try.prog W .any base t v)
    (hA : DataW.TrodAll enc Try.prog W 0 (fun _ => true) true Try.f5.params.toList args.toList ds p) (hlt : ∀ x ∈ p, x.block < W.heap.size) :
    Calls Try.prog 5 args W fun e W' => e = .returned (.bool true) ∧ Below W.heap.size W W' := by
  rw [Try.params5] at hA hval
  obtain ⟨rfl, rfl, rfl⟩ := trodAll_none hA
  exact walk W

theorem own : ownKnob Try.prog.godebug = none := by kernel_rfl
theorem laid : laidOutB Try.prog = true := by kernel_rfl
theorem readable : ∀ t ∈ Try.f5.params.toList, Try.prog.readableRec t = true ∧ t < Try.prog.types.size := by
  have h : (Try.f5.params.toList.all fun t => Try.prog.readableRec t && decide (t < Try.prog.types.size)) = true := by kernel_rfl
  intro t ht
  have := List.all_eq_true.1 h t ht
  simpa using this

theorem law_shape {H : Type} {enc : TypeId × Value → H} {W : World} {args : List Value} {ds : List (DataW H)} {p : List MemPlace}
    (h : DataW.TrodAll enc Try.prog W 0 (fun _ => true) true Try.f5.params.toList args ds p) : ds = [] := by
  rw [Try.params5] at h
  obtain ⟨_, rfl, _⟩ := trodAll_none h
  rfl

set_option maxRecDepth 100000 in
theorem lifted (os : Os) (started : os.Started) (H : Type) (enc : TypeId × Value → H) :
    ReturnsInHanded {} Try.checked os 5 .any (Rows.fnExactClusterNewSpec.pre6 enc Try.prog Try.f5 Rows.fnExactClusterNewRow.domain false) (Rows.fnExactClusterNewSpec.post enc Try.prog Try.f5 false true false false) := by
  refine returnsInHanded_of_change (C := Try.checked) own started (by kernel_rfl) Try.func5
    (ChangeSpec.witness6 (enc := enc) (C := Try.checked) false ⟨#[], #[], []⟩ 8 (by kernel_rfl) (by kernel_rfl) (by kernel_rfl) (by kernel_rfl)) ?_
  intro W base args ds gs before hval0 hW hcnd _
  have hlt : ∀ x ∈ before, x.block < W.heap.size := fun x hx => hW.lt x hx
  have hW' := hW
  obtain ⟨p, q, hA, hV, rfl, _, _⟩ := hW'
  exact (law_walk W base args ds p hval0 hA (fun x hx => hlt x (List.mem_append_left _ hx))).mono fun e W' ⟨he, hb⟩ =>
    ⟨_, he, law_post laid readable rfl Try.underlying4 rfl (by obtain hs := law_shape hA; rw [hs]; rfl) hW hb⟩

theorem over : Rows.fnExactClusterNewRow.holds Try.pinned (OpenSpec.ofChange Rows.fnExactClusterNewSpec) :=
  OpenClaim.holds_of_wide 5 Try.f5 rfl rfl rfl rfl rfl rfl rfl ⟨rfl, rfl, rfl, rfl, rfl⟩ rfl rfl rfl rfl rfl (by kernel_rfl) Try.func5 (by kernel_rfl)
    (of_decide_eq_true (by kernel_rfl)) (by unfold Func.isWrapper; first | (rw [if_pos (by decide +kernel)]; kernel_rfl) | (rw [if_neg (by decide +kernel)]; exact ⟨rfl, rfl⟩))
    (fun os started H enc _ => lifted os started H enc)

theorem proved : Rows.FnExactClusterNewSaid :=
  over
#print axioms proved
end Go.Proofs.Ytjhonoabpelfeaa.fnExactClusterNew
