/- SameHost, SamePod, of the reference. No condition. -/
import Derived.Test.YtaljcihfkblncaaSameN
import Derived.Test.YtaljcihfkblncaaBlk
import Derived.Test.YtaljcihfkblncaaSmalls
namespace Go.Proofs.Ytaljcihfkblncaa
open Go.ChangeShapes Go.WideShapes Go.ChangeAt Go.RowKit
set_option linter.unusedVariables false
set_option linter.unusedSimpArgs false
set_option maxRecDepth 100000 in
set_option maxHeartbeats 4000000 in
theorem SameHost_spec (a b : Host) (cs ds : List Value) (F G : List Nat) (w : World) (h : rd w a cs F) (h' : rd w b ds G) (hwa : (a.wt : Int) ≤ 1048576) (hwb : (b.wt : Int) ≤ 1048576) :
    Calls Try.prog 76 #[.agg cs.toArray, .agg ds.toArray] w fun e w' => e = .returned (.bool (eqHost a b)) ∧ Below w.heap.size w w' := by
  obtain ⟨Alabels1, clabels1, Flabels1, Ataints1, ctaints1, Ftaints1, hck, rfl, hname1, hlabels1, hcpu1, hmem1, hslots1, htaints1⟩ := rd_Host h
  subst hck
  obtain ⟨Alabels2, clabels2, Flabels2, Ataints2, ctaints2, Ftaints2, hck, rfl, hname2, hlabels2, hcpu2, hmem2, hslots2, htaints2⟩ := rd_Host h'
  subst hck
  clear hwa hwb
  cases e0 : (a.name.toList == b.name.toList) with
  | false =>
    have HF := Lib.hid (show eqHost a b = false by simp only [eqHost, e0, Bool.and_false, Bool.false_and, Bool.true_and, Bool.and_true])
    have n0 : (a.name.toList != b.name.toList) = true := by rw [bne, e0]; rfl
    go_enter Try.func76, Try.ntmps76
    go_wp2_with (fail)
    go_ret
    exact ⟨by rw [HF.out]; rfl, (by repeat (first | with_reducible exact ext_refl _ | with_reducible assumption | with_reducible refine ext_alloc ?_ _ | with_reducible refine ext_trans ?_ (by assumption)))⟩
  | true =>
    cases e1 : same eqLabel a.labels b.labels with
    | false =>
      have HF := Lib.hid (show eqHost a b = false by simp only [eqHost, e0, e1, Bool.and_false, Bool.false_and, Bool.true_and, Bool.and_true])
      have n0 : (a.name.toList != b.name.toList) = false := by rw [bne, e0]; rfl
      have HE1 := Lib.hid e1
      clear e1
      go_enter Try.func76, Try.ntmps76
      go_wp2_with (first | (go_at_call 130; refine (SameLabels_spec a.labels b.labels _ _ _ _ _ _ _ (hlabels1.ext (by repeat (first | with_reducible exact ext_refl _ | with_reducible assumption | with_reducible refine ext_alloc ?_ _ | with_reducible refine ext_trans ?_ (by assumption)))) (hlabels2.ext (by repeat (first | with_reducible exact ext_refl _ | with_reducible assumption | with_reducible refine ext_alloc ?_ _ | with_reducible refine ext_trans ?_ (by assumption))))).mono ?_; rw [HE1.out]; rintro e w1 ⟨rfl, hb1⟩; obtain ⟨hc1, hf1⟩ := bcell hb1; have hz10 : w.heap.size < w1.heap.size := (by have := hb1.size; (try simp at this); omega); have hz11 : w.heap.size + 1 < w1.heap.size := (by have := hb1.size; (try simp at this); omega)))
      go_ret
      exact ⟨by rw [HF.out]; rfl, (by repeat (first | with_reducible exact ext_refl _ | with_reducible assumption | with_reducible refine ext_alloc ?_ _ | with_reducible refine ext_trans ?_ (by assumption)))⟩
    | true =>
      cases e2 : (a.cpu == b.cpu) with
      | false =>
        have HF := Lib.hid (show eqHost a b = false by simp only [eqHost, e0, e1, e2, Bool.and_false, Bool.false_and, Bool.true_and, Bool.and_true])
        have n0 : (a.name.toList != b.name.toList) = false := by rw [bne, e0]; rfl
        have HE1 := Lib.hid e1
        clear e1
        have n2 : (a.cpu != b.cpu) = true := by rw [bne, e2]; rfl
        go_enter Try.func76, Try.ntmps76
        go_wp2_with (first | (go_at_call 130; refine (SameLabels_spec a.labels b.labels _ _ _ _ _ _ _ (hlabels1.ext (by repeat (first | with_reducible exact ext_refl _ | with_reducible assumption | with_reducible refine ext_alloc ?_ _ | with_reducible refine ext_trans ?_ (by assumption)))) (hlabels2.ext (by repeat (first | with_reducible exact ext_refl _ | with_reducible assumption | with_reducible refine ext_alloc ?_ _ | with_reducible refine ext_trans ?_ (by assumption))))).mono ?_; rw [HE1.out]; rintro e w1 ⟨rfl, hb1⟩; obtain ⟨hc1, hf1⟩ := bcell hb1; have hz10 : w.heap.size < w1.heap.size := (by have := hb1.size; (try simp at this); omega); have hz11 : w.heap.size + 1 < w1.heap.size := (by have := hb1.size; (try simp at this); omega)))
        go_ret
        exact ⟨by rw [HF.out]; rfl, (by repeat (first | with_reducible exact ext_refl _ | with_reducible assumption | with_reducible refine ext_alloc ?_ _ | with_reducible refine ext_trans ?_ (by assumption)))⟩
      | true =>
        cases e3 : (a.mem == b.mem) with
        | false =>
          have HF := Lib.hid (show eqHost a b = false by simp only [eqHost, e0, e1, e2, e3, Bool.and_false, Bool.false_and, Bool.true_and, Bool.and_true])
          have n0 : (a.name.toList != b.name.toList) = false := by rw [bne, e0]; rfl
          have HE1 := Lib.hid e1
          clear e1
          have n2 : (a.cpu != b.cpu) = false := by rw [bne, e2]; rfl
          have n3 : (a.mem != b.mem) = true := by rw [bne, e3]; rfl
          go_enter Try.func76, Try.ntmps76
          go_wp2_with (first | (go_at_call 130; refine (SameLabels_spec a.labels b.labels _ _ _ _ _ _ _ (hlabels1.ext (by repeat (first | with_reducible exact ext_refl _ | with_reducible assumption | with_reducible refine ext_alloc ?_ _ | with_reducible refine ext_trans ?_ (by assumption)))) (hlabels2.ext (by repeat (first | with_reducible exact ext_refl _ | with_reducible assumption | with_reducible refine ext_alloc ?_ _ | with_reducible refine ext_trans ?_ (by assumption))))).mono ?_; rw [HE1.out]; rintro e w1 ⟨rfl, hb1⟩; obtain ⟨hc1, hf1⟩ := bcell hb1; have hz10 : w.heap.size < w1.heap.size := (by have := hb1.size; (try simp at this); omega); have hz11 : w.heap.size + 1 < w1.heap.size := (by have := hb1.size; (try simp at this); omega)))
          go_ret
          exact ⟨by rw [HF.out]; rfl, (by repeat (first | with_reducible exact ext_refl _ | with_reducible assumption | with_reducible refine ext_alloc ?_ _ | with_reducible refine ext_trans ?_ (by assumption)))⟩
        | true =>
          cases e4 : (a.slots == b.slots) with
          | false =>
            have HF := Lib.hid (show eqHost a b = false by simp only [eqHost, e0, e1, e2, e3, e4, Bool.and_false, Bool.false_and, Bool.true_and, Bool.and_true])
            have n0 : (a.name.toList != b.name.toList) = false := by rw [bne, e0]; rfl
            have HE1 := Lib.hid e1
            clear e1
            have n2 : (a.cpu != b.cpu) = false := by rw [bne, e2]; rfl
            have n3 : (a.mem != b.mem) = false := by rw [bne, e3]; rfl
            have n4 : (a.slots != b.slots) = true := by rw [bne, e4]; rfl
            go_enter Try.func76, Try.ntmps76
            go_wp2_with (first | (go_at_call 130; refine (SameLabels_spec a.labels b.labels _ _ _ _ _ _ _ (hlabels1.ext (by repeat (first | with_reducible exact ext_refl _ | with_reducible assumption | with_reducible refine ext_alloc ?_ _ | with_reducible refine ext_trans ?_ (by assumption)))) (hlabels2.ext (by repeat (first | with_reducible exact ext_refl _ | with_reducible assumption | with_reducible refine ext_alloc ?_ _ | with_reducible refine ext_trans ?_ (by assumption))))).mono ?_; rw [HE1.out]; rintro e w1 ⟨rfl, hb1⟩; obtain ⟨hc1, hf1⟩ := bcell hb1; have hz10 : w.heap.size < w1.heap.size := (by have := hb1.size; (try simp at this); omega); have hz11 : w.heap.size + 1 < w1.heap.size := (by have := hb1.size; (try simp at this); omega)))
            go_ret
            exact ⟨by rw [HF.out]; rfl, (by repeat (first | with_reducible exact ext_refl _ | with_reducible assumption | with_reducible refine ext_alloc ?_ _ | with_reducible refine ext_trans ?_ (by assumption)))⟩
          | true =>
            have HF := Lib.hid (show eqHost a b = same eqTaint a.taints b.taints by simp only [eqHost, e0, e1, e2, e3, e4, Bool.and_false, Bool.false_and, Bool.true_and, Bool.and_true])
            have n0 : (a.name.toList != b.name.toList) = false := by rw [bne, e0]; rfl
            have HE1 := Lib.hid e1
            clear e1
            have n2 : (a.cpu != b.cpu) = false := by rw [bne, e2]; rfl
            have n3 : (a.mem != b.mem) = false := by rw [bne, e3]; rfl
            have n4 : (a.slots != b.slots) = false := by rw [bne, e4]; rfl
            by_cases hl : a.taints.length = b.taints.length
            · have HL := Lib.hid hl
              have hln : ((a.taints.length : Int) != (b.taints.length : Int)) = false := by simp [hl]
              have hcap := htaints1.cap
              unfold maxLen at hcap
              clear hl
              go_enter Try.func76, Try.ntmps76
              go_wp2_with (first | (go_at_call 130; refine (SameLabels_spec a.labels b.labels _ _ _ _ _ _ _ (hlabels1.ext (by repeat (first | with_reducible exact ext_refl _ | with_reducible assumption | with_reducible refine ext_alloc ?_ _ | with_reducible refine ext_trans ?_ (by assumption)))) (hlabels2.ext (by repeat (first | with_reducible exact ext_refl _ | with_reducible assumption | with_reducible refine ext_alloc ?_ _ | with_reducible refine ext_trans ?_ (by assumption))))).mono ?_; rw [HE1.out]; rintro e w1 ⟨rfl, hb1⟩; obtain ⟨hc1, hf1⟩ := bcell hb1; have hz10 : w.heap.size < w1.heap.size := (by have := hb1.size; (try simp at this); omega); have hz11 : w.heap.size + 1 < w1.heap.size := (by have := hb1.size; (try simp at this); omega)))
              have KA0 := Blk.new w [.string a.name, .slice Alabels1 a.labels.length clabels1, .int .i64 a.cpu, .int .i64 a.mem, .int .i64 a.slots, .slice Ataints1 a.taints.length ctaints1] 99
              have KB0 := Blk.new (w.alloc (.cells ([.string a.name, .slice Alabels1 a.labels.length clabels1, .int .i64 a.cpu, .int .i64 a.mem, .int .i64 a.slots, .slice Ataints1 a.taints.length ctaints1] : List Value).toArray 99)) [.string b.name, .slice Alabels2 b.labels.length clabels2, .int .i64 b.cpu, .int .i64 b.mem, .int .i64 b.slots, .slice Ataints2 b.taints.length ctaints2] 99
              have KA := ((KA0.ext (ext_alloc (ext_refl _) _)).ext hb1)
              have KB := (KB0.ext hb1)
              have kx := KA.cell (i := 5) (u := .slice Ataints1 a.taints.length ctaints1) rfl
              have ky : w1.cell? ⟨w.heap.size + 1, 5, none⟩ = some (.slice Ataints2 b.taints.length ctaints2) := by have := KB.cell (i := 5) (u := .slice Ataints2 b.taints.length ctaints2) rfl; simpa using this
              clear KA0 KB0 KA KB
              have hbw : Below w.heap.size w w1 := (by repeat (first | with_reducible exact ext_refl _ | with_reducible assumption | with_reducible refine ext_alloc ?_ _ | with_reducible refine ext_trans ?_ (by assumption)))
              go_loopw [5] (fun i wr => ∃ k : Nat, k ≤ a.taints.length ∧ i = .int .i64 k ∧ Hid (same eqTaint (a.taints.take k) (b.taints.take k) = true) ∧ Below w1.heap.size w1 wr) (fun i _ => a.taints.length - (intOf i).toNat)
              case atStart => exact ⟨0, Nat.zero_le _, rfl, by show _ = true; simp [same], ext_refl _⟩
              case round =>
                obtain ⟨k, hk, rfl, Heq, hbl⟩ := hrel
                have kxr := ((bcell hbl).1 _ 5 hz10).trans kx
                have kyr := ((bcell hbl).1 _ 5 hz11).trans ky
                have hz0r : w.heap.size < wr.heap.size := World.block_lt_of_cell? wr _ kxr
                have hz1r : w.heap.size + 1 < wr.heap.size := World.block_lt_of_cell? wr _ kyr
                have hbwr : Below w.heap.size w wr := ext_trans hbw hbl
                by_cases hlt : k < a.taints.length
                · obtain ⟨q, o, ck, Fk, rfl, hbF, hbs, hr, hsub, hc⟩ := (Sl.ext (w' := wr) (A := Ataints1) (c := ctaints1) htaints1 hbwr).get hlt
                  have hlt' : k < b.taints.length := by rw [← HL.out]; exact hlt
                  obtain ⟨q', o', ck', Fk', rfl, hbF', hbs', hr', hsub', hc'⟩ := (Sl.ext (w' := wr) (A := Ataints2) (c := ctaints2) htaints2 hbwr).get hlt'
                  obtain ⟨hck, rfl, hkey3, hvalue3, heffect3⟩ := rd_Taint hr
                  subst hck
                  obtain ⟨hck, rfl, hkey4, hvalue4, heffect4⟩ := rd_Taint hr'
                  subst hck
                  have q0 : wr.cell? ⟨q, o + k * 3, none⟩ = some (.string a.taints[k].key) := by exact hc 0 _ rfl
                  have q1 : wr.cell? ⟨q, o + k * 3 + 1, none⟩ = some (.string a.taints[k].value) := by rw [Nat.add_assoc]; exact hc 1 _ rfl
                  have q2 : wr.cell? ⟨q, o + k * 3 + 2, none⟩ = some (.int .i64 a.taints[k].effect) := by rw [Nat.add_assoc]; exact hc 2 _ rfl
                  have p0 : wr.cell? ⟨q', o' + k * 3, none⟩ = some (.string b.taints[k].key) := by exact hc' 0 _ rfl
                  have p1 : wr.cell? ⟨q', o' + k * 3 + 1, none⟩ = some (.string b.taints[k].value) := by rw [Nat.add_assoc]; exact hc' 1 _ rfl
                  have p2 : wr.cell? ⟨q', o' + k * 3 + 2, none⟩ = some (.int .i64 b.taints[k].effect) := by rw [Nat.add_assoc]; exact hc' 2 _ rfl
                  clear hc hc'
                  go_wp2_with fail
                  refine wp_region_grow wr (by kernel_rfl) (by kernel_rfl) (by first | exact ext_refl _ | assumption) ?_
                  repeat (first
                    | (apply inText_skip
                       case hw => rfl
                       simp only [Act.put, List.setIfInBounds_toArray, List.set_cons_zero, List.set_cons_succ])
                    | (apply inText_step
                       case hw => rfl
                       case h =>
                         intro wq hq
                         have hcq := (cls_cell hq).1
                         have hfq := (cls_cell hq).2
                         go_simp
                         first
                           | exact ⟨hq, rfl⟩
                           | exact ⟨cls_alloc hq _, rfl⟩
                           | ((refine outcome_of_eq (v := .bool (!(eqTaint a.taints[k] b.taints[k]))) ?_ hq; unfold eqTaint; repeat' split; all_goals simp [*]))
                           | (simp only [↓IntWalk.iteOmega]; exact ⟨hq, rfl⟩)
                       simp only [Act.put, List.setIfInBounds_toArray, List.set_cons_zero, List.set_cons_succ]))
                  refine inText_nil ?_
                  intro wn hn
                  replace hn := hn.out
                  go_wp2
                  · rename_i hne
                    go_ret
                    refine ⟨?_, ext_trans hbwr hn⟩
                    rw [HF.out, same_drop (k + 1) (by rw [same_take hlt hlt', Heq.out]; simpa using hne) HL.out]
                    rfl
                  · rename_i hne
                    exact ⟨⟨k + 1, by omega, by go_num, by show _ = _; rw [same_take hlt hlt', Heq.out]; simpa using hne, ext_trans hbl hn⟩, by simp [intOf]; omega⟩
                · have hkl : k = a.taints.length := by omega
                  have HK := Lib.hid hkl
                  clear hkl
                  go_wp2
                  go_ret
                  have h1 := Heq.out
                  rw [HK.out, List.take_length, HL.out, List.take_length] at h1
                  exact ⟨by rw [HF.out, h1]; rfl, hbwr⟩
            · have hln : ((a.taints.length : Int) != (b.taints.length : Int)) = true := by simp; omega
              have HS := Lib.hid (same_len (eq := eqTaint) hl)
              clear hl
              go_enter Try.func76, Try.ntmps76
              go_wp2_with (first | (go_at_call 130; refine (SameLabels_spec a.labels b.labels _ _ _ _ _ _ _ (hlabels1.ext (by repeat (first | with_reducible exact ext_refl _ | with_reducible assumption | with_reducible refine ext_alloc ?_ _ | with_reducible refine ext_trans ?_ (by assumption)))) (hlabels2.ext (by repeat (first | with_reducible exact ext_refl _ | with_reducible assumption | with_reducible refine ext_alloc ?_ _ | with_reducible refine ext_trans ?_ (by assumption))))).mono ?_; rw [HE1.out]; rintro e w1 ⟨rfl, hb1⟩; obtain ⟨hc1, hf1⟩ := bcell hb1; have hz10 : w.heap.size < w1.heap.size := (by have := hb1.size; (try simp at this); omega); have hz11 : w.heap.size + 1 < w1.heap.size := (by have := hb1.size; (try simp at this); omega)))
              go_ret
              exact ⟨by rw [HF.out, HS.out]; rfl, (by repeat (first | with_reducible exact ext_refl _ | with_reducible assumption | with_reducible refine ext_alloc ?_ _ | with_reducible refine ext_trans ?_ (by assumption)))⟩
set_option maxRecDepth 100000 in
set_option maxHeartbeats 4000000 in
theorem SamePod_spec (a b : Pod) (cs ds : List Value) (F G : List Nat) (w : World) (h : rd w a cs F) (h' : rd w b ds G) (hwa : (a.wt : Int) ≤ 1048576) (hwb : (b.wt : Int) ≤ 1048576) :
    Calls Try.prog 77 #[.agg cs.toArray, .agg ds.toArray] w fun e w' => e = .returned (.bool (eqPod a b)) ∧ Below w.heap.size w w' := by
  have HVA := Lib.hid (fun l hl => ((needs_small (xs := a.needs) (by have e : a.wt = a.name.size + wtL Label.wt a.labels + wtL Need.wt a.needs + wtL Tolerance.wt a.tolerances := rfl; omega)).2 l hl).2.1)
  have HVB := Lib.hid (fun l hl => ((needs_small (xs := b.needs) (by have e : b.wt = b.name.size + wtL Label.wt b.labels + wtL Need.wt b.needs + wtL Tolerance.wt b.tolerances := rfl; omega)).2 l hl).2.1)
  obtain ⟨Alabels1, clabels1, Flabels1, Aneeds1, cneeds1, Fneeds1, Atolerances1, ctolerances1, Ftolerances1, hck, rfl, hname1, hlabels1, hcpu1, hmem1, hrank1, hneeds1, htolerances1⟩ := rd_Pod h
  subst hck
  obtain ⟨Alabels2, clabels2, Flabels2, Aneeds2, cneeds2, Fneeds2, Atolerances2, ctolerances2, Ftolerances2, hck, rfl, hname2, hlabels2, hcpu2, hmem2, hrank2, hneeds2, htolerances2⟩ := rd_Pod h'
  subst hck
  clear hwa hwb
  cases e0 : (a.name.toList == b.name.toList) with
  | false =>
    have HF := Lib.hid (show eqPod a b = false by simp only [eqPod, e0, Bool.and_false, Bool.false_and, Bool.true_and, Bool.and_true])
    have n0 : (a.name.toList != b.name.toList) = true := by rw [bne, e0]; rfl
    go_enter Try.func77, Try.ntmps77
    go_wp2_with (fail)
    go_ret
    exact ⟨by rw [HF.out]; rfl, (by repeat (first | with_reducible exact ext_refl _ | with_reducible assumption | with_reducible refine ext_alloc ?_ _ | with_reducible refine ext_trans ?_ (by assumption)))⟩
  | true =>
    cases e1 : same eqLabel a.labels b.labels with
    | false =>
      have HF := Lib.hid (show eqPod a b = false by simp only [eqPod, e0, e1, Bool.and_false, Bool.false_and, Bool.true_and, Bool.and_true])
      have n0 : (a.name.toList != b.name.toList) = false := by rw [bne, e0]; rfl
      have HE1 := Lib.hid e1
      clear e1
      go_enter Try.func77, Try.ntmps77
      go_wp2_with (first | (go_at_call 130; refine (SameLabels_spec a.labels b.labels _ _ _ _ _ _ _ (hlabels1.ext (by repeat (first | with_reducible exact ext_refl _ | with_reducible assumption | with_reducible refine ext_alloc ?_ _ | with_reducible refine ext_trans ?_ (by assumption)))) (hlabels2.ext (by repeat (first | with_reducible exact ext_refl _ | with_reducible assumption | with_reducible refine ext_alloc ?_ _ | with_reducible refine ext_trans ?_ (by assumption))))).mono ?_; rw [HE1.out]; rintro e w1 ⟨rfl, hb1⟩; obtain ⟨hc1, hf1⟩ := bcell hb1; have hz10 : w.heap.size < w1.heap.size := (by have := hb1.size; (try simp at this); omega); have hz11 : w.heap.size + 1 < w1.heap.size := (by have := hb1.size; (try simp at this); omega)))
      go_ret
      exact ⟨by rw [HF.out]; rfl, (by repeat (first | with_reducible exact ext_refl _ | with_reducible assumption | with_reducible refine ext_alloc ?_ _ | with_reducible refine ext_trans ?_ (by assumption)))⟩
    | true =>
      cases e2 : (a.cpu == b.cpu) with
      | false =>
        have HF := Lib.hid (show eqPod a b = false by simp only [eqPod, e0, e1, e2, Bool.and_false, Bool.false_and, Bool.true_and, Bool.and_true])
        have n0 : (a.name.toList != b.name.toList) = false := by rw [bne, e0]; rfl
        have HE1 := Lib.hid e1
        clear e1
        have n2 : (a.cpu != b.cpu) = true := by rw [bne, e2]; rfl
        go_enter Try.func77, Try.ntmps77
        go_wp2_with (first | (go_at_call 130; refine (SameLabels_spec a.labels b.labels _ _ _ _ _ _ _ (hlabels1.ext (by repeat (first | with_reducible exact ext_refl _ | with_reducible assumption | with_reducible refine ext_alloc ?_ _ | with_reducible refine ext_trans ?_ (by assumption)))) (hlabels2.ext (by repeat (first | with_reducible exact ext_refl _ | with_reducible assumption | with_reducible refine ext_alloc ?_ _ | with_reducible refine ext_trans ?_ (by assumption))))).mono ?_; rw [HE1.out]; rintro e w1 ⟨rfl, hb1⟩; obtain ⟨hc1, hf1⟩ := bcell hb1; have hz10 : w.heap.size < w1.heap.size := (by have := hb1.size; (try simp at this); omega); have hz11 : w.heap.size + 1 < w1.heap.size := (by have := hb1.size; (try simp at this); omega)))
        go_ret
        exact ⟨by rw [HF.out]; rfl, (by repeat (first | with_reducible exact ext_refl _ | with_reducible assumption | with_reducible refine ext_alloc ?_ _ | with_reducible refine ext_trans ?_ (by assumption)))⟩
      | true =>
        cases e3 : (a.mem == b.mem) with
        | false =>
          have HF := Lib.hid (show eqPod a b = false by simp only [eqPod, e0, e1, e2, e3, Bool.and_false, Bool.false_and, Bool.true_and, Bool.and_true])
          have n0 : (a.name.toList != b.name.toList) = false := by rw [bne, e0]; rfl
          have HE1 := Lib.hid e1
          clear e1
          have n2 : (a.cpu != b.cpu) = false := by rw [bne, e2]; rfl
          have n3 : (a.mem != b.mem) = true := by rw [bne, e3]; rfl
          go_enter Try.func77, Try.ntmps77
          go_wp2_with (first | (go_at_call 130; refine (SameLabels_spec a.labels b.labels _ _ _ _ _ _ _ (hlabels1.ext (by repeat (first | with_reducible exact ext_refl _ | with_reducible assumption | with_reducible refine ext_alloc ?_ _ | with_reducible refine ext_trans ?_ (by assumption)))) (hlabels2.ext (by repeat (first | with_reducible exact ext_refl _ | with_reducible assumption | with_reducible refine ext_alloc ?_ _ | with_reducible refine ext_trans ?_ (by assumption))))).mono ?_; rw [HE1.out]; rintro e w1 ⟨rfl, hb1⟩; obtain ⟨hc1, hf1⟩ := bcell hb1; have hz10 : w.heap.size < w1.heap.size := (by have := hb1.size; (try simp at this); omega); have hz11 : w.heap.size + 1 < w1.heap.size := (by have := hb1.size; (try simp at this); omega)))
          go_ret
          exact ⟨by rw [HF.out]; rfl, (by repeat (first | with_reducible exact ext_refl _ | with_reducible assumption | with_reducible refine ext_alloc ?_ _ | with_reducible refine ext_trans ?_ (by assumption)))⟩
        | true =>
          cases e4 : (a.rank == b.rank) with
          | false =>
            have HF := Lib.hid (show eqPod a b = false by simp only [eqPod, e0, e1, e2, e3, e4, Bool.and_false, Bool.false_and, Bool.true_and, Bool.and_true])
            have n0 : (a.name.toList != b.name.toList) = false := by rw [bne, e0]; rfl
            have HE1 := Lib.hid e1
            clear e1
            have n2 : (a.cpu != b.cpu) = false := by rw [bne, e2]; rfl
            have n3 : (a.mem != b.mem) = false := by rw [bne, e3]; rfl
            have n4 : (a.rank != b.rank) = true := by rw [bne, e4]; rfl
            go_enter Try.func77, Try.ntmps77
            go_wp2_with (first | (go_at_call 130; refine (SameLabels_spec a.labels b.labels _ _ _ _ _ _ _ (hlabels1.ext (by repeat (first | with_reducible exact ext_refl _ | with_reducible assumption | with_reducible refine ext_alloc ?_ _ | with_reducible refine ext_trans ?_ (by assumption)))) (hlabels2.ext (by repeat (first | with_reducible exact ext_refl _ | with_reducible assumption | with_reducible refine ext_alloc ?_ _ | with_reducible refine ext_trans ?_ (by assumption))))).mono ?_; rw [HE1.out]; rintro e w1 ⟨rfl, hb1⟩; obtain ⟨hc1, hf1⟩ := bcell hb1; have hz10 : w.heap.size < w1.heap.size := (by have := hb1.size; (try simp at this); omega); have hz11 : w.heap.size + 1 < w1.heap.size := (by have := hb1.size; (try simp at this); omega)))
            go_ret
            exact ⟨by rw [HF.out]; rfl, (by repeat (first | with_reducible exact ext_refl _ | with_reducible assumption | with_reducible refine ext_alloc ?_ _ | with_reducible refine ext_trans ?_ (by assumption)))⟩
          | true =>
            cases e5 : same eqNeed a.needs b.needs with
            | false =>
              have HF := Lib.hid (show eqPod a b = false by simp only [eqPod, e0, e1, e2, e3, e4, e5, Bool.and_false, Bool.false_and, Bool.true_and, Bool.and_true])
              have n0 : (a.name.toList != b.name.toList) = false := by rw [bne, e0]; rfl
              have HE1 := Lib.hid e1
              clear e1
              have n2 : (a.cpu != b.cpu) = false := by rw [bne, e2]; rfl
              have n3 : (a.mem != b.mem) = false := by rw [bne, e3]; rfl
              have n4 : (a.rank != b.rank) = false := by rw [bne, e4]; rfl
              have HE5 := Lib.hid e5
              clear e5
              go_enter Try.func77, Try.ntmps77
              go_wp2_with (first | (go_at_call 130; refine (SameLabels_spec a.labels b.labels _ _ _ _ _ _ _ (hlabels1.ext (by repeat (first | with_reducible exact ext_refl _ | with_reducible assumption | with_reducible refine ext_alloc ?_ _ | with_reducible refine ext_trans ?_ (by assumption)))) (hlabels2.ext (by repeat (first | with_reducible exact ext_refl _ | with_reducible assumption | with_reducible refine ext_alloc ?_ _ | with_reducible refine ext_trans ?_ (by assumption))))).mono ?_; rw [HE1.out]; rintro e w1 ⟨rfl, hb1⟩; obtain ⟨hc1, hf1⟩ := bcell hb1; have hz10 : w.heap.size < w1.heap.size := (by have := hb1.size; (try simp at this); omega); have hz11 : w.heap.size + 1 < w1.heap.size := (by have := hb1.size; (try simp at this); omega)) | (go_at_call 131; refine (SameNeeds_spec a.needs b.needs _ _ _ _ _ _ _ (hneeds1.ext (by repeat (first | with_reducible exact ext_refl _ | with_reducible assumption | with_reducible refine ext_alloc ?_ _ | with_reducible refine ext_trans ?_ (by assumption)))) (hneeds2.ext (by repeat (first | with_reducible exact ext_refl _ | with_reducible assumption | with_reducible refine ext_alloc ?_ _ | with_reducible refine ext_trans ?_ (by assumption)))) HVA.out HVB.out).mono ?_; rw [HE5.out]; rintro e w5 ⟨rfl, hb5⟩; obtain ⟨hc5, hf5⟩ := bcell hb5; have hz50 : w.heap.size < w5.heap.size := (by have := hb5.size; (try simp at this); omega); have hz51 : w.heap.size + 1 < w5.heap.size := (by have := hb5.size; (try simp at this); omega)))
              go_ret
              exact ⟨by rw [HF.out]; rfl, (by repeat (first | with_reducible exact ext_refl _ | with_reducible assumption | with_reducible refine ext_alloc ?_ _ | with_reducible refine ext_trans ?_ (by assumption)))⟩
            | true =>
              have HF := Lib.hid (show eqPod a b = same eqTolerance a.tolerances b.tolerances by simp only [eqPod, e0, e1, e2, e3, e4, e5, Bool.and_false, Bool.false_and, Bool.true_and, Bool.and_true])
              have n0 : (a.name.toList != b.name.toList) = false := by rw [bne, e0]; rfl
              have HE1 := Lib.hid e1
              clear e1
              have n2 : (a.cpu != b.cpu) = false := by rw [bne, e2]; rfl
              have n3 : (a.mem != b.mem) = false := by rw [bne, e3]; rfl
              have n4 : (a.rank != b.rank) = false := by rw [bne, e4]; rfl
              have HE5 := Lib.hid e5
              clear e5
              by_cases hl : a.tolerances.length = b.tolerances.length
              · have HL := Lib.hid hl
                have hln : ((a.tolerances.length : Int) != (b.tolerances.length : Int)) = false := by simp [hl]
                have hcap := htolerances1.cap
                unfold maxLen at hcap
                clear hl
                go_enter Try.func77, Try.ntmps77
                go_wp2_with (first | (go_at_call 130; refine (SameLabels_spec a.labels b.labels _ _ _ _ _ _ _ (hlabels1.ext (by repeat (first | with_reducible exact ext_refl _ | with_reducible assumption | with_reducible refine ext_alloc ?_ _ | with_reducible refine ext_trans ?_ (by assumption)))) (hlabels2.ext (by repeat (first | with_reducible exact ext_refl _ | with_reducible assumption | with_reducible refine ext_alloc ?_ _ | with_reducible refine ext_trans ?_ (by assumption))))).mono ?_; rw [HE1.out]; rintro e w1 ⟨rfl, hb1⟩; obtain ⟨hc1, hf1⟩ := bcell hb1; have hz10 : w.heap.size < w1.heap.size := (by have := hb1.size; (try simp at this); omega); have hz11 : w.heap.size + 1 < w1.heap.size := (by have := hb1.size; (try simp at this); omega)) | (go_at_call 131; refine (SameNeeds_spec a.needs b.needs _ _ _ _ _ _ _ (hneeds1.ext (by repeat (first | with_reducible exact ext_refl _ | with_reducible assumption | with_reducible refine ext_alloc ?_ _ | with_reducible refine ext_trans ?_ (by assumption)))) (hneeds2.ext (by repeat (first | with_reducible exact ext_refl _ | with_reducible assumption | with_reducible refine ext_alloc ?_ _ | with_reducible refine ext_trans ?_ (by assumption)))) HVA.out HVB.out).mono ?_; rw [HE5.out]; rintro e w5 ⟨rfl, hb5⟩; obtain ⟨hc5, hf5⟩ := bcell hb5; have hz50 : w.heap.size < w5.heap.size := (by have := hb5.size; (try simp at this); omega); have hz51 : w.heap.size + 1 < w5.heap.size := (by have := hb5.size; (try simp at this); omega)))
                have KA0 := Blk.new w [.string a.name, .slice Alabels1 a.labels.length clabels1, .int .i64 a.cpu, .int .i64 a.mem, .int .i64 a.rank, .slice Aneeds1 a.needs.length cneeds1, .slice Atolerances1 a.tolerances.length ctolerances1] 33
                have KB0 := Blk.new (w.alloc (.cells ([.string a.name, .slice Alabels1 a.labels.length clabels1, .int .i64 a.cpu, .int .i64 a.mem, .int .i64 a.rank, .slice Aneeds1 a.needs.length cneeds1, .slice Atolerances1 a.tolerances.length ctolerances1] : List Value).toArray 33)) [.string b.name, .slice Alabels2 b.labels.length clabels2, .int .i64 b.cpu, .int .i64 b.mem, .int .i64 b.rank, .slice Aneeds2 b.needs.length cneeds2, .slice Atolerances2 b.tolerances.length ctolerances2] 33
                have KA := (((KA0.ext (ext_alloc (ext_refl _) _)).ext hb1).ext hb5)
                have KB := ((KB0.ext hb1).ext hb5)
                have kx := KA.cell (i := 6) (u := .slice Atolerances1 a.tolerances.length ctolerances1) rfl
                have ky : w5.cell? ⟨w.heap.size + 1, 6, none⟩ = some (.slice Atolerances2 b.tolerances.length ctolerances2) := by have := KB.cell (i := 6) (u := .slice Atolerances2 b.tolerances.length ctolerances2) rfl; simpa using this
                clear KA0 KB0 KA KB
                have hbw : Below w.heap.size w w5 := (by repeat (first | with_reducible exact ext_refl _ | with_reducible assumption | with_reducible refine ext_alloc ?_ _ | with_reducible refine ext_trans ?_ (by assumption)))
                go_loopw [5] (fun i wr => ∃ k : Nat, k ≤ a.tolerances.length ∧ i = .int .i64 k ∧ Hid (same eqTolerance (a.tolerances.take k) (b.tolerances.take k) = true) ∧ Below w5.heap.size w5 wr) (fun i _ => a.tolerances.length - (intOf i).toNat)
                case atStart => exact ⟨0, Nat.zero_le _, rfl, by show _ = true; simp [same], ext_refl _⟩
                case round =>
                  obtain ⟨k, hk, rfl, Heq, hbl⟩ := hrel
                  have kxr := ((bcell hbl).1 _ 6 hz50).trans kx
                  have kyr := ((bcell hbl).1 _ 6 hz51).trans ky
                  have hz0r : w.heap.size < wr.heap.size := World.block_lt_of_cell? wr _ kxr
                  have hz1r : w.heap.size + 1 < wr.heap.size := World.block_lt_of_cell? wr _ kyr
                  have hbwr : Below w.heap.size w wr := ext_trans hbw hbl
                  by_cases hlt : k < a.tolerances.length
                  · obtain ⟨q, o, ck, Fk, rfl, hbF, hbs, hr, hsub, hc⟩ := (Sl.ext (w' := wr) (A := Atolerances1) (c := ctolerances1) htolerances1 hbwr).get hlt
                    have hlt' : k < b.tolerances.length := by rw [← HL.out]; exact hlt
                    obtain ⟨q', o', ck', Fk', rfl, hbF', hbs', hr', hsub', hc'⟩ := (Sl.ext (w' := wr) (A := Atolerances2) (c := ctolerances2) htolerances2 hbwr).get hlt'
                    obtain ⟨hck, rfl, hkey3, hvalue3, heffect3⟩ := rd_Tolerance hr
                    subst hck
                    obtain ⟨hck, rfl, hkey4, hvalue4, heffect4⟩ := rd_Tolerance hr'
                    subst hck
                    have q0 : wr.cell? ⟨q, o + k * 4, none⟩ = some (.string a.tolerances[k].key) := by exact hc 0 _ rfl
                    have q1 : wr.cell? ⟨q, o + k * 4 + 1, none⟩ = some (.bool a.tolerances[k].equal) := by rw [Nat.add_assoc]; exact hc 1 _ rfl
                    have q2 : wr.cell? ⟨q, o + k * 4 + 2, none⟩ = some (.string a.tolerances[k].value) := by rw [Nat.add_assoc]; exact hc 2 _ rfl
                    have q3 : wr.cell? ⟨q, o + k * 4 + 3, none⟩ = some (.int .i64 a.tolerances[k].effect) := by rw [Nat.add_assoc]; exact hc 3 _ rfl
                    have p0 : wr.cell? ⟨q', o' + k * 4, none⟩ = some (.string b.tolerances[k].key) := by exact hc' 0 _ rfl
                    have p1 : wr.cell? ⟨q', o' + k * 4 + 1, none⟩ = some (.bool b.tolerances[k].equal) := by rw [Nat.add_assoc]; exact hc' 1 _ rfl
                    have p2 : wr.cell? ⟨q', o' + k * 4 + 2, none⟩ = some (.string b.tolerances[k].value) := by rw [Nat.add_assoc]; exact hc' 2 _ rfl
                    have p3 : wr.cell? ⟨q', o' + k * 4 + 3, none⟩ = some (.int .i64 b.tolerances[k].effect) := by rw [Nat.add_assoc]; exact hc' 3 _ rfl
                    clear hc hc'
                    go_wp2_with fail
                    refine wp_region_grow wr (by kernel_rfl) (by kernel_rfl) (by first | exact ext_refl _ | assumption) ?_
                    repeat (first
                      | (apply inText_skip
                         case hw => rfl
                         simp only [Act.put, List.setIfInBounds_toArray, List.set_cons_zero, List.set_cons_succ])
                      | (apply inText_step
                         case hw => rfl
                         case h =>
                           intro wq hq
                           have hcq := (cls_cell hq).1
                           have hfq := (cls_cell hq).2
                           go_simp
                           first
                             | exact ⟨hq, rfl⟩
                             | exact ⟨cls_alloc hq _, rfl⟩
                             | ((refine outcome_of_eq (v := .bool (!(eqTolerance a.tolerances[k] b.tolerances[k]))) ?_ hq; unfold eqTolerance; repeat' split; all_goals simp [*]))
                             | (simp only [↓IntWalk.iteOmega]; exact ⟨hq, rfl⟩)
                         simp only [Act.put, List.setIfInBounds_toArray, List.set_cons_zero, List.set_cons_succ]))
                    refine inText_nil ?_
                    intro wn hn
                    replace hn := hn.out
                    go_wp2
                    · rename_i hne
                      go_ret
                      refine ⟨?_, ext_trans hbwr hn⟩
                      rw [HF.out, same_drop (k + 1) (by rw [same_take hlt hlt', Heq.out]; simpa using hne) HL.out]
                      rfl
                    · rename_i hne
                      exact ⟨⟨k + 1, by omega, by go_num, by show _ = _; rw [same_take hlt hlt', Heq.out]; simpa using hne, ext_trans hbl hn⟩, by simp [intOf]; omega⟩
                  · have hkl : k = a.tolerances.length := by omega
                    have HK := Lib.hid hkl
                    clear hkl
                    go_wp2
                    go_ret
                    have h1 := Heq.out
                    rw [HK.out, List.take_length, HL.out, List.take_length] at h1
                    exact ⟨by rw [HF.out, h1]; rfl, hbwr⟩
              · have hln : ((a.tolerances.length : Int) != (b.tolerances.length : Int)) = true := by simp; omega
                have HS := Lib.hid (same_len (eq := eqTolerance) hl)
                clear hl
                go_enter Try.func77, Try.ntmps77
                go_wp2_with (first | (go_at_call 130; refine (SameLabels_spec a.labels b.labels _ _ _ _ _ _ _ (hlabels1.ext (by repeat (first | with_reducible exact ext_refl _ | with_reducible assumption | with_reducible refine ext_alloc ?_ _ | with_reducible refine ext_trans ?_ (by assumption)))) (hlabels2.ext (by repeat (first | with_reducible exact ext_refl _ | with_reducible assumption | with_reducible refine ext_alloc ?_ _ | with_reducible refine ext_trans ?_ (by assumption))))).mono ?_; rw [HE1.out]; rintro e w1 ⟨rfl, hb1⟩; obtain ⟨hc1, hf1⟩ := bcell hb1; have hz10 : w.heap.size < w1.heap.size := (by have := hb1.size; (try simp at this); omega); have hz11 : w.heap.size + 1 < w1.heap.size := (by have := hb1.size; (try simp at this); omega)) | (go_at_call 131; refine (SameNeeds_spec a.needs b.needs _ _ _ _ _ _ _ (hneeds1.ext (by repeat (first | with_reducible exact ext_refl _ | with_reducible assumption | with_reducible refine ext_alloc ?_ _ | with_reducible refine ext_trans ?_ (by assumption)))) (hneeds2.ext (by repeat (first | with_reducible exact ext_refl _ | with_reducible assumption | with_reducible refine ext_alloc ?_ _ | with_reducible refine ext_trans ?_ (by assumption)))) HVA.out HVB.out).mono ?_; rw [HE5.out]; rintro e w5 ⟨rfl, hb5⟩; obtain ⟨hc5, hf5⟩ := bcell hb5; have hz50 : w.heap.size < w5.heap.size := (by have := hb5.size; (try simp at this); omega); have hz51 : w.heap.size + 1 < w5.heap.size := (by have := hb5.size; (try simp at this); omega)))
                go_ret
                exact ⟨by rw [HF.out, HS.out]; rfl, (by repeat (first | with_reducible exact ext_refl _ | with_reducible assumption | with_reducible refine ext_alloc ?_ _ | with_reducible refine ext_trans ?_ (by assumption)))⟩

end Go.Proofs.Ytaljcihfkblncaa
