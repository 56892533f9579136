/- ReadHostBytes, of the program and of the reference. No condition. -/
import Derived.Test.YtjhonoabpelfeaaRdHI
import Derived.Test.YtjhonoabpelfeaaRdHS
import Derived.Test.YtjhonoabpelfeaaMtHost
import Derived.Deep.RegionWith
namespace Go.Proofs.Ytjhonoabpelfeaa
open Go.ChangeShapes Go.WideShapes Go.ChangeAt Go.RowKit
set_option linter.unusedVariables false
set_option linter.unusedSimpArgs false

theorem Own.drew {α : Type} [Dat α] {w : World} {B : Nat} {x : α} {cs : List Value} {F : List Nat} (h : Own w B x cs F) : Own w.drew B x cs F := h.ext (ext_drew (ext_refl _))
theorem Own.zero (w : World) (B : Nat) : Own w B zeroHost [.string ⟨#[]⟩, .slice none 0 0, .int .i64 0, .int .i64 0, .int .i64 0, .slice none 0 0] [] := by
  have h := @Own.up (ByteArray × List Label × Int × Int × Int × List Taint) _ w B Host zeroHost [.string ⟨#[]⟩, .slice none 0 0, .int .i64 0, .int .i64 0, .int .i64 0, .slice none 0 0] [] B (fun x : Host => (x.name, x.labels, x.cpu, x.mem, x.slots, x.taints)) ?_ (Nat.le_refl _)
  · exact h
  · refine Own.cons (c1 := [.string ⟨#[]⟩]) (rdStr _ _ (by decide)) ?_
    refine Own.cons (c1 := [.slice none 0 0]) (Sl.nil _ none 0 (Nat.zero_le _)) ?_
    refine Own.cons (c1 := [.int .i64 0]) (rdInt _ 0 ⟨by omega, by omega⟩) ?_
    refine Own.cons (c1 := [.int .i64 0]) (rdInt _ 0 ⟨by omega, by omega⟩) ?_
    refine Own.cons (c1 := [.int .i64 0]) (rdInt _ 0 ⟨by omega, by omega⟩) ?_
    exact Own.flat (Sl.nil _ none 0 (Nat.zero_le _))
theorem hostS_name (s : ByteArray) (st : Int × Bool) (hs : (s.size : Int) ≤ 1048576) : ((hostS s st).1.name.size : Int) ≤ 1048576 := textS_size s st hs
theorem hostS_labels (s : ByteArray) (st : Int × Bool) (hs : (s.size : Int) ≤ 1048576) : (hostS s st).1.labels.length ≤ 6 ∧ ∀ l ∈ (hostS s st).1.labels, (l.key.size : Int) ≤ 1048576 ∧ (l.value.size : Int) ≤ 1048576 :=
  ⟨labelsS_len s _, labelsS_small s _ hs⟩
theorem hostS_taints (s : ByteArray) (st : Int × Bool) (hs : (s.size : Int) ≤ 1048576) : (hostS s st).1.taints.length ≤ 4 ∧ ∀ l ∈ (hostS s st).1.taints, (l.key.size : Int) ≤ 1048576 ∧ (l.value.size : Int) ≤ 1048576 := by
  refine ⟨?_, loopS_all (fun st => ⟨textS_size s _ hs, textS_size s _ hs⟩) _ _ _ (fun l hl => by cases hl)⟩
  have h := loopS_len (taintS s) (manyS s 4 (numS s (numS s (numS s (labelsS s (textS s st).2).2).2).2).2).1.toNat [] (manyS s 4 (numS s (numS s (numS s (labelsS s (textS s st).2).2).2).2).2).2
  have := manyS_ways s 4 (numS s (numS s (numS s (labelsS s (textS s st).2).2).2).2).2 (by decide)
  refine Nat.le_trans h ?_
  rw [List.length_nil]
  omega
theorem cntL_tnt : ∀ xs : List Taint, cntL cntTaint xs ≤ 3 * xs.length
  | [] => Nat.zero_le _
  | x :: xs => by have := cntL_tnt xs; simp only [cntL, List.map_cons, List.sum_cons, List.length_cons] at this ⊢; have e : cntTaint x ≤ 3 := by (simp only [cntTaint]; omega)
                  omega
theorem cntL_labh : ∀ xs : List Label, cntL cntLabel xs = 2 * xs.length
  | [] => rfl
  | x :: xs => by have := cntL_labh xs; simp only [cntL, List.map_cons, List.sum_cons, List.length_cons] at this ⊢; rw [this]; simp only [cntLabel]; omega
theorem readHostI_cnt (s : ByteArray) (a : Int) : (cntTopHost (readHostI s a).1 : Int) ≤ 1048576 := by
  rw [readHost_same]
  unfold readHostS
  split
  · decide
  · rename_i h
    show (cntTopHost (hostS s (a, false)).1 : Int) ≤ 1048576
    have h1 := labelsS_len s (textS s (a, false)).2
    have h2 : (hostS s (a, false)).1.labels.length ≤ 6 := h1
    have h3 : (hostS s (a, false)).1.taints.length ≤ 4 := by
      have h := loopS_len (taintS s) (manyS s 4 (numS s (numS s (numS s (labelsS s (textS s (a, false)).2).2).2).2).2).1.toNat [] (manyS s 4 (numS s (numS s (numS s (labelsS s (textS s (a, false)).2).2).2).2).2).2
      have := manyS_ways s 4 (numS s (numS s (numS s (labelsS s (textS s (a, false)).2).2).2).2).2 (by decide)
      refine Nat.le_trans h ?_
      rw [List.length_nil]
      omega
    have h4 := cntL_tnt (hostS s (a, false)).1.taints
    have h5 := cntL_labh (hostS s (a, false)).1.labels
    unfold cntTopHost
    omega
set_option maxRecDepth 100000 in
set_option maxHeartbeats 2000000 in
theorem ReadHost_impl (s : ByteArray) (a : Int) (w : World) (hs : (s.size : Int) ≤ 1048576) (ha : I64 a) :
    Calls Try.prog 15 #[.string s, .int .i64 a] w fun e w' => ∃ ds F, e = .returned (.tuple #[.agg ds.toArray, .int .i64 (readHostI s a).2]) ∧ Own w' w.heap.size (readHostI s a).1 ds F ∧ Below w.heap.size w w' := by
  have HR := Lib.hid (show readHostI s a = if (hostI s a).2 < 0 then (zeroHost, -1) else hostI s a from rfl)
  have HL := Lib.hid (fun b wq hq => host_any s b a wq hq hs)
  generalize hostI s a = q at *
  generalize readHostI s a = R at *
  go_enter Try.func15, Try.ntmps15
  go_wp2_with fail
  have hI0 : ICur ((w.alloc (.cells ([.string ⟨#[]⟩, .slice none 0 0, .int .i64 0, .int .i64 0, .int .i64 0, .slice none 0 0] : List Value).toArray 31)).alloc (.cells #[.string s, .int .i64 a] 77)) (w.heap.size + 1) s a := ⟨⟨_, by have := heap_alloc_new (w.alloc (.cells ([.string ⟨#[]⟩, .slice none 0 0, .int .i64 0, .int .i64 0, .int .i64 0, .slice none 0 0] : List Value).toArray 31)) (.cells #[.string s, .int .i64 a] 77); simpa using this⟩, ha⟩
  refine (HL.out _ _ hI0).mono ?_
  rintro e w2 ⟨ds2, F2, rfl, hO, hI, hu⟩
  have hz2 : w.heap.size + 1 < w2.heap.size := by have := hu.size; (try simp at this); omega
  have hy2 : w.heap.size < w2.heap.size := by omega
  have RB := (Blk.new w [.string ⟨#[]⟩, .slice none 0 0, .int .i64 0, .int .i64 0, .int .i64 0, .slice none 0 0] 31).ext (w' := (w.alloc (.cells ([.string ⟨#[]⟩, .slice none 0 0, .int .i64 0, .int .i64 0, .int .i64 0, .slice none 0 0] : List Value).toArray 31)).alloc (.cells #[.string s, .int .i64 a] 77)) (ext_alloc (ext_refl _) _) |>.upd hu (by omega)
  have HB := Lib.hid (((Upd.of_ext [w.heap.size + 1] (ext_alloc (ext_alloc (ext_refl w) (.cells ([.string ⟨#[]⟩, .slice none 0 0, .int .i64 0, .int .i64 0, .int .i64 0, .slice none 0 0] : List Value).toArray 31)) (.cells #[.string s, .int .i64 a] 77))).trans hu).below (B := w.heap.size) (fun y hy => by simp only [List.mem_singleton] at hy; omega) (Nat.le_refl _))
  have HO := Lib.hid (hO.mono (B' := w.heap.size + 1) (by simp))
  have hR := hO.rd
  obtain ⟨Alabels7, clabels7, Flabels7, Ataints7, ctaints7, Ftaints7, hck, hG, hname7, hlabels7, hcpu7, hmem7, hslots7, htaints7⟩ := rd_Host hR
  subst hck
  have r0 := RB.cell (i := 0) (u := .string ⟨#[]⟩) rfl
  have r1 := RB.cell (i := 1) (u := .slice none 0 0) rfl
  have r2 := RB.cell (i := 2) (u := .int .i64 0) rfl
  have r3 := RB.cell (i := 3) (u := .int .i64 0) rfl
  have r4 := RB.cell (i := 4) (u := .int .i64 0) rfl
  have r5 := RB.cell (i := 5) (u := .slice none 0 0) rfl
  have rl := RB.lt
  have rf := RB.fz
  have hc1 := hI.c1
  have hlt := hI.lt
  have H2 := Lib.hid hI
  clear hO hu hI hR hG hlabels7 htaints7 RB hI0
  by_cases hn : q.2 < 0
  · have HF := Lib.hid (show R = (zeroHost, -1) by rw [HR.out, if_pos hn])
    go_wp2_with fail
    refine (bad_any s (w.heap.size + 1) q.2 _ (H2.out.ext (by repeat (first | with_reducible exact ext_refl _ | with_reducible assumption | with_reducible refine ext_alloc ?_ _ | with_reducible refine ext_trans ?_ (by assumption))))).mono ?_
    rw [show decide (q.2 < 0) = true by simp [hn]]
    rintro e w4 ⟨rfl, hw⟩
    simp only [hw]
    clear hw w4
    iterate 60 (first | go_step | skip)
    refine bodyPost_ret (v := .tuple #[.agg #[.string ⟨#[]⟩, .slice none 0 0, .int .i64 0, .int .i64 0, .int .i64 0, .slice none 0 0], .int .i64 (-1)]) (by simp [results, Try.results15, go_sem, *]) rfl ?_
    rw [HF.out]
    have HB9 := HB.out
    first
      | refine ⟨[.string ⟨#[]⟩, .slice none 0 0, .int .i64 0, .int .i64 0, .int .i64 0, .slice none 0 0], [], rfl, ?_, ?_⟩
      | refine ⟨[.string ⟨#[]⟩, .slice none 0 0, .int .i64 0, .int .i64 0, .int .i64 0, .slice none 0 0], rfl, ⟨[], ?_⟩, ?_⟩
    · exact Own.zero _ _
    · repeat (first | with_reducible exact HB9 | with_reducible refine ext_drew ?_ | with_reducible refine ext_setCell ?_ (by exact Nat.le_refl _) _ | with_reducible refine ext_alloc ?_ _ | with_reducible refine ext_trans ?_ (by assumption))
  · have HF := Lib.hid (show R = q by rw [HR.out, if_neg hn])
    go_wp2_with fail
    refine (bad_any s (w.heap.size + 1) q.2 _ (H2.out.ext (by repeat (first | with_reducible exact ext_refl _ | with_reducible assumption | with_reducible refine ext_alloc ?_ _ | with_reducible refine ext_trans ?_ (by assumption))))).mono ?_
    rw [show decide (q.2 < 0) = false by simp; omega]
    rintro e w4 ⟨rfl, hw⟩
    simp only [hw]
    clear hw w4
    iterate 60 (first | go_step | skip)
    go_region_with fail
    all_goals iterate 60 (first | go_step | skip)
    all_goals
      refine bodyPost_ret (v := .tuple #[.agg #[.string q.1.name, .slice Alabels7 q.1.labels.length clabels7, .int .i64 q.1.cpu, .int .i64 q.1.mem, .int .i64 q.1.slots, .slice Ataints7 q.1.taints.length ctaints7], .int .i64 q.2]) (by simp [results, Try.results15, go_sem, *]) rfl ?_
      rw [HF.out]
      have HB9 := HB.out
      first
        | refine ⟨[.string q.1.name, .slice Alabels7 q.1.labels.length clabels7, .int .i64 q.1.cpu, .int .i64 q.1.mem, .int .i64 q.1.slots, .slice Ataints7 q.1.taints.length ctaints7], F2, rfl, ?_, ?_⟩
        | refine ⟨[.string q.1.name, .slice Alabels7 q.1.labels.length clabels7, .int .i64 q.1.cpu, .int .i64 q.1.mem, .int .i64 q.1.slots, .slice Ataints7 q.1.taints.length ctaints7], rfl, ⟨F2, ?_⟩, ?_⟩
      · refine Own.mono (B := w.heap.size + 1) ?_ (by omega)
        repeat (first | with_reducible exact HO.out | with_reducible refine Own.drew ?_ | with_reducible refine Own.setCell ?_ (by show w.heap.size < _; omega) _ | with_reducible refine Own.alloc ?_ _ | with_reducible refine Own.ext ?_ (by assumption))
      · repeat (first | with_reducible exact HB9 | with_reducible refine ext_drew ?_ | with_reducible refine ext_setCell ?_ (by exact Nat.le_refl _) _ | with_reducible refine ext_alloc ?_ _ | with_reducible refine ext_trans ?_ (by assumption))
set_option maxRecDepth 100000 in
set_option maxHeartbeats 2000000 in
theorem ReadHost_spec (s : ByteArray) (a : Int) (w : World) (hs : (s.size : Int) ≤ 1048576) (ha : I64 a) :
    Calls Try.prog 14 #[.string s, .int .i64 a] w fun e w' => ∃ ds F, e = .returned (.tuple #[.agg ds.toArray, .int .i64 (readHostI s a).2]) ∧ Own w' w.heap.size (readHostI s a).1 ds F ∧ Below w.heap.size w w' := by
  have HR := Lib.hid (show readHostI s a = if (hostS s (a, false)).2.2 = true ∨ hostR (hostS s (a, false)).1 = false then (zeroHost, -1) else ((hostS s (a, false)).1, (hostS s (a, false)).2.1) from readHost_same s a)
  have HL := Lib.hid (fun b wq hq => Host_spec s b (a, false) wq hq hs)
  have hnm := hostS_name s (a, false) hs
  obtain ⟨hll, hls⟩ := hostS_labels s (a, false) hs
  obtain ⟨htl, hts⟩ := hostS_taints s (a, false) hs
  have HLS := Lib.hid hls
  have HTS := Lib.hid hts
  clear hls hts
  generalize hostS s (a, false) = q at *
  generalize readHostI s a = R at *
  go_enter Try.func14, Try.ntmps14
  go_wp2_with fail
  have hI0 : SCur ((w.alloc (.cells ([.string ⟨#[]⟩, .slice none 0 0, .int .i64 0, .int .i64 0, .int .i64 0, .slice none 0 0] : List Value).toArray 31)).alloc (.cells #[.string s, .int .i64 a, .bool false] 74)) (w.heap.size + 1) s (a, false) := ⟨⟨_, by have := heap_alloc_new (w.alloc (.cells ([.string ⟨#[]⟩, .slice none 0 0, .int .i64 0, .int .i64 0, .int .i64 0, .slice none 0 0] : List Value).toArray 31)) (.cells #[.string s, .int .i64 a, .bool false] 74); simpa using this⟩, ha⟩
  refine (HL.out _ _ hI0).mono ?_
  rintro e w2 ⟨ds2, F2, rfl, hO, hI, hu⟩
  have hz2 : w.heap.size + 1 < w2.heap.size := by have := hu.size; (try simp at this); omega
  have hy2 : w.heap.size < w2.heap.size := by omega
  have RB := (Blk.new w [.string ⟨#[]⟩, .slice none 0 0, .int .i64 0, .int .i64 0, .int .i64 0, .slice none 0 0] 31).ext (w' := (w.alloc (.cells ([.string ⟨#[]⟩, .slice none 0 0, .int .i64 0, .int .i64 0, .int .i64 0, .slice none 0 0] : List Value).toArray 31)).alloc (.cells #[.string s, .int .i64 a, .bool false] 74)) (ext_alloc (ext_refl _) _) |>.upd hu (by omega)
  have hB2 : Below w.heap.size w w2 := ((Upd.of_ext [w.heap.size + 1] (ext_alloc (ext_alloc (ext_refl w) (.cells ([.string ⟨#[]⟩, .slice none 0 0, .int .i64 0, .int .i64 0, .int .i64 0, .slice none 0 0] : List Value).toArray 31)) (.cells #[.string s, .int .i64 a, .bool false] 74))).trans hu).below (B := w.heap.size) (fun y hy => by simp only [List.mem_singleton] at hy; omega) (Nat.le_refl _)
  have HB := Lib.hid hB2
  have HO := Lib.hid (hO.mono (B' := w.heap.size + 1) (by simp))
  have hR := hO.rd
  obtain ⟨x, n, bad⟩ := q
  dsimp only at *
  obtain ⟨Alabels7, clabels7, Flabels7, Ataints7, ctaints7, Ftaints7, hck, hG, hname7, hlabels7, hcpu7, hmem7, hslots7, htaints7⟩ := rd_Host hR
  subst hck
  have r0 := RB.cell (i := 0) (u := .string ⟨#[]⟩) rfl
  have r1 := RB.cell (i := 1) (u := .slice none 0 0) rfl
  have r2 := RB.cell (i := 2) (u := .int .i64 0) rfl
  have r3 := RB.cell (i := 3) (u := .int .i64 0) rfl
  have r4 := RB.cell (i := 4) (u := .int .i64 0) rfl
  have r5 := RB.cell (i := 5) (u := .slice none 0 0) rfl
  have rl := RB.lt
  have rf := RB.fz
  have HRB := Lib.hid RB
  have hc1 := hI.c1
  have hc2 := hI.c2
  have hlt := hI.lt
  clear hO hu hI hR hG hlabels7 htaints7 RB hI0
  have hlli : (x.labels.length : Int) ≤ 1048576 := by omega
  have htli : (x.taints.length : Int) ≤ 1048576 := by omega
  cases bad
  · cases hr : hostR x
    · have HRR := Lib.hid hr
      have HF := Lib.hid (show R = (zeroHost, -1) by rw [HR.out]; simp [hr])
      clear hr
      go_wp2_with fail
      refine (HostOkC_spec x _ _ _ (rd_extT HO.out.rd (by repeat (first | with_reducible exact ext_refl _ | with_reducible assumption | with_reducible refine ext_alloc ?_ _ | with_reducible refine ext_trans ?_ (by assumption)))) hnm hlli HLS.out htli HTS.out).mono ?_
      rw [HRR.out]
      rintro e w5 ⟨rfl, hb5⟩
      obtain ⟨hc5, hf5⟩ := bcell hb5
      have hz5 : w.heap.size < w5.heap.size := by have := hb5.size; (try simp at this); omega
      have hy5 : w.heap.size + 1 < w5.heap.size := by have := hb5.size; (try simp at this); omega
      have hx5 : w2.heap.size < w5.heap.size := by have := hb5.size; (try simp at this); omega
      dsimp only
      iterate 60 (first | go_step | skip)
      have RB5 : Blk w5 w.heap.size [.string ⟨#[]⟩, .slice none 0 0, .int .i64 0, .int .i64 0, .int .i64 0, .slice none 0 0] := HRB.out.ext (by repeat (first | with_reducible exact ext_refl _ | with_reducible assumption | with_reducible refine ext_alloc ?_ _ | with_reducible refine ext_trans ?_ (by assumption)))
      have t0 := RB5.cell (i := 0) (u := .string ⟨#[]⟩) rfl
      have t1 := RB5.cell (i := 1) (u := .slice none 0 0) rfl
      have t2 := RB5.cell (i := 2) (u := .int .i64 0) rfl
      have t3 := RB5.cell (i := 3) (u := .int .i64 0) rfl
      have t4 := RB5.cell (i := 4) (u := .int .i64 0) rfl
      have t5 := RB5.cell (i := 5) (u := .slice none 0 0) rfl
      have tl := RB5.lt
      clear RB5
      refine bodyPost_ret (v := .tuple #[.agg #[.string ⟨#[]⟩, .slice none 0 0, .int .i64 0, .int .i64 0, .int .i64 0, .slice none 0 0], .int .i64 (-1)]) (by simp [results, Try.results14, go_sem, *]) rfl ?_
      rw [HF.out]
      have HB9 := HB.out
      first
        | refine ⟨[.string ⟨#[]⟩, .slice none 0 0, .int .i64 0, .int .i64 0, .int .i64 0, .slice none 0 0], [], rfl, ?_, ?_⟩
        | refine ⟨[.string ⟨#[]⟩, .slice none 0 0, .int .i64 0, .int .i64 0, .int .i64 0, .slice none 0 0], rfl, ⟨[], ?_⟩, ?_⟩
      · exact Own.zero _ _
      · repeat (first | with_reducible exact HB9 | with_reducible refine ext_drew ?_ | with_reducible refine ext_setCell ?_ (by exact Nat.le_refl _) _ | with_reducible refine ext_alloc ?_ _ | with_reducible refine ext_trans ?_ (by assumption))
    · have HRR := Lib.hid hr
      have HF := Lib.hid (show R = (x, n) by rw [HR.out]; simp [hr])
      clear hr
      go_wp2_with fail
      refine (HostOkC_spec x _ _ _ (rd_extT HO.out.rd (by repeat (first | with_reducible exact ext_refl _ | with_reducible assumption | with_reducible refine ext_alloc ?_ _ | with_reducible refine ext_trans ?_ (by assumption)))) hnm hlli HLS.out htli HTS.out).mono ?_
      rw [HRR.out]
      rintro e w5 ⟨rfl, hb5⟩
      obtain ⟨hc5, hf5⟩ := bcell hb5
      have hz5 : w.heap.size < w5.heap.size := by have := hb5.size; (try simp at this); omega
      have hy5 : w.heap.size + 1 < w5.heap.size := by have := hb5.size; (try simp at this); omega
      have hx5 : w2.heap.size < w5.heap.size := by have := hb5.size; (try simp at this); omega
      dsimp only
      iterate 60 (first | go_step | skip)
      go_region_with fail
      all_goals iterate 60 (first | go_step | skip)
      all_goals
        have RB5 : Blk w5 w.heap.size [.string ⟨#[]⟩, .slice none 0 0, .int .i64 0, .int .i64 0, .int .i64 0, .slice none 0 0] := HRB.out.ext (by repeat (first | with_reducible exact ext_refl _ | with_reducible assumption | with_reducible refine ext_alloc ?_ _ | with_reducible refine ext_trans ?_ (by assumption)))
        have t0 := RB5.cell (i := 0) (u := .string ⟨#[]⟩) rfl
        have t1 := RB5.cell (i := 1) (u := .slice none 0 0) rfl
        have t2 := RB5.cell (i := 2) (u := .int .i64 0) rfl
        have t3 := RB5.cell (i := 3) (u := .int .i64 0) rfl
        have t4 := RB5.cell (i := 4) (u := .int .i64 0) rfl
        have t5 := RB5.cell (i := 5) (u := .slice none 0 0) rfl
        have tl := RB5.lt
        clear RB5
        refine bodyPost_ret (v := .tuple #[.agg #[.string x.name, .slice Alabels7 x.labels.length clabels7, .int .i64 x.cpu, .int .i64 x.mem, .int .i64 x.slots, .slice Ataints7 x.taints.length ctaints7], .int .i64 n]) (by simp [results, Try.results14, go_sem, *]) rfl ?_
        rw [HF.out]
        have HB9 := HB.out
        first
          | refine ⟨[.string x.name, .slice Alabels7 x.labels.length clabels7, .int .i64 x.cpu, .int .i64 x.mem, .int .i64 x.slots, .slice Ataints7 x.taints.length ctaints7], F2, rfl, ?_, ?_⟩
          | refine ⟨[.string x.name, .slice Alabels7 x.labels.length clabels7, .int .i64 x.cpu, .int .i64 x.mem, .int .i64 x.slots, .slice Ataints7 x.taints.length ctaints7], rfl, ⟨F2, ?_⟩, ?_⟩
        · refine Own.mono (B := w.heap.size + 1) ?_ (by omega)
          repeat (first | with_reducible exact HO.out | with_reducible refine Own.drew ?_ | with_reducible refine Own.setCell ?_ (by show w.heap.size < _; omega) _ | with_reducible refine Own.alloc ?_ _ | with_reducible refine Own.ext ?_ (by assumption))
        · repeat (first | with_reducible exact HB9 | with_reducible refine ext_drew ?_ | with_reducible refine ext_setCell ?_ (by exact Nat.le_refl _) _ | with_reducible refine ext_alloc ?_ _ | with_reducible refine ext_trans ?_ (by assumption))
  · have HF := Lib.hid (show R = (zeroHost, -1) by rw [HR.out]; simp)
    iterate 60 (first | go_step | skip)
    refine bodyPost_ret (v := .tuple #[.agg #[.string ⟨#[]⟩, .slice none 0 0, .int .i64 0, .int .i64 0, .int .i64 0, .slice none 0 0], .int .i64 (-1)]) (by simp [results, Try.results14, go_sem, *]) rfl ?_
    rw [HF.out]
    have HB9 := HB.out
    first
      | refine ⟨[.string ⟨#[]⟩, .slice none 0 0, .int .i64 0, .int .i64 0, .int .i64 0, .slice none 0 0], [], rfl, ?_, ?_⟩
      | refine ⟨[.string ⟨#[]⟩, .slice none 0 0, .int .i64 0, .int .i64 0, .int .i64 0, .slice none 0 0], rfl, ⟨[], ?_⟩, ?_⟩
    · exact Own.zero _ _
    · repeat (first | with_reducible exact HB9 | with_reducible refine ext_drew ?_ | with_reducible refine ext_setCell ?_ (by exact Nat.le_refl _) _ | with_reducible refine ext_alloc ?_ _ | with_reducible refine ext_trans ?_ (by assumption))

end Go.Proofs.Ytjhonoabpelfeaa
