/- A host's reading, in plain Lean: the program's and the reference's end alike. No condition. -/
import Derived.Test.YtpgdgcjgompokaaGreatRdPl
import Derived.Test.YtpgdgcjgompokaaGreatHostOk
namespace Go.Proofs.YtpgdgcjgompokaaGreat
open Go.ChangeShapes Go.WideShapes Go.ChangeAt Go.RowKit
set_option linter.unusedVariables false
set_option linter.unusedSimpArgs false

def taintI (s : ByteArray) (a : Int) : Taint × Int :=
  (⟨(textI s a).1, (textI s (textI s a).2).1, (varI s (textI s (textI s a).2).2).1⟩, (varI s (textI s (textI s a).2).2).2)
def taintS (s : ByteArray) (st : Int × Bool) : Taint × (Int × Bool) :=
  (⟨(textS s st).1, (textS s (textS s st).2).1, (numS s (textS s (textS s st).2).2).1⟩, (numS s (textS s (textS s st).2).2).2)
theorem varI_neg2 {s : ByteArray} {a : Int} (h : a < 0) : (varI s a).2 < 0 := by rw [varI_neg h]; decide
theorem countI_neg {s : ByteArray} {most a : Int} (hm : 0 ≤ most) (h : a < 0) : countI s most a = (0, -1) := by
  unfold countI
  rw [varI_neg h, if_pos hm, if_pos (by decide)]
theorem taintI_neg {s : ByteArray} {a : Int} (h : a < 0) : (taintI s a).2 < 0 := varI_neg2 (textI_neg (textI_neg h))
theorem taint_same {s : ByteArray} {a : Int} {st : Int × Bool} (h : Same a st) : Same (taintI s a).2 (taintS s st).2 ∧ (0 ≤ (taintI s a).2 → (taintI s a).1 = (taintS s st).1) := by
  obtain ⟨h1, e1⟩ := text_same (s := s) h.weak
  obtain ⟨h2, e2⟩ := text_same (s := s) h1.weak
  obtain ⟨h3, e3⟩ := num_same (s := s) h2.weak
  exact ⟨h3, fun _ => by unfold taintI taintS; rw [e1, e2, e3]⟩
/-- a host behind its name and its labels -/
def restI (s : ByteArray) (nm : ByteArray) (ls : List Label) (a : Int) : Host × Int :=
  (⟨nm, ls, (varI s a).1, (varI s (varI s a).2).1, (varI s (varI s (varI s a).2).2).1,
    (loopI (taintI s) (countI s 4 (varI s (varI s (varI s a).2).2).2).1.toNat [] (countI s 4 (varI s (varI s (varI s a).2).2).2).2).1⟩,
   (loopI (taintI s) (countI s 4 (varI s (varI s (varI s a).2).2).2).1.toNat [] (countI s 4 (varI s (varI s (varI s a).2).2).2).2).2)
def restS (s : ByteArray) (nm : ByteArray) (ls : List Label) (st : Int × Bool) : Host × (Int × Bool) :=
  (⟨nm, ls, (numS s st).1, (numS s (numS s st).2).1, (numS s (numS s (numS s st).2).2).1,
    (loopS (taintS s) (manyS s 4 (numS s (numS s (numS s st).2).2).2).1.toNat [] (manyS s 4 (numS s (numS s (numS s st).2).2).2).2).1⟩,
   (loopS (taintS s) (manyS s 4 (numS s (numS s (numS s st).2).2).2).1.toNat [] (manyS s 4 (numS s (numS s (numS s st).2).2).2).2).2)
theorem restI_neg {s nm : ByteArray} {ls : List Label} {a : Int} (h : a < 0) : (restI s nm ls a).2 < 0 := by
  unfold restI
  refine loopI_neg (fun a ha => taintI_neg ha) _ _ _ ?_
  rw [countI_neg (by decide) (varI_neg2 (varI_neg2 (varI_neg2 h)))]
  decide
theorem rest_same {s nm nm' : ByteArray} {ls ls' : List Label} {a : Int} {st : Int × Bool} (h : Same a st) (hn : nm = nm') (hl : 0 ≤ a → ls = ls') : Same (restI s nm ls a).2 (restS s nm' ls' st).2 ∧ (0 ≤ (restI s nm ls a).2 → (restI s nm ls a).1 = (restS s nm' ls' st).1) := by
  obtain ⟨h1, e1⟩ := num_same (s := s) h.weak
  obtain ⟨h2, e2⟩ := num_same (s := s) h1.weak
  obtain ⟨h3, e3⟩ := num_same (s := s) h2.weak
  obtain ⟨h4, e4⟩ := many_same (s := s) (most := 4) (by decide) h3.weak
  have h5 := loop_same (r := taintI s) (q := taintS s) (fun a ha => taintI_neg ha) (fun a st hs => taint_same hs) (countI s 4 (varI s (varI s (varI s a).2).2).2).1.toNat [] [] _ _ h4 (fun _ => rfl)
  refine ⟨?_, fun h0 => ?_⟩
  · unfold restI restS
    dsimp only
    rw [← e4]
    exact h5.1
  · have ha : 0 ≤ a := by
      rcases Int.lt_or_le a 0 with hlt | hge
      · exact absurd (restI_neg (s := s) (nm := nm) (ls := ls) hlt) (by omega)
      · exact hge
    have e5 := h5.2 h0
    unfold restI restS
    dsimp only
    rw [hn, hl ha, e1, e2, e3, ← e4, e5]
def hostRaw (s : ByteArray) (a : Int) : Host × Int := restI s (textI s a).1 (labelsI s (textI s a).2).1 (labelsI s (textI s a).2).2
def hostI (s : ByteArray) (a : Int) : Host × Int := ((hostRaw s a).1, if hostR (hostRaw s a).1 = true then (hostRaw s a).2 else -1)
def hostS (s : ByteArray) (st : Int × Bool) : Host × (Int × Bool) := restS s (textS s st).1 (labelsS s (textS s st).2).1 (labelsS s (textS s st).2).2
def zeroHost : Host := ⟨⟨#[]⟩, [], 0, 0, 0, []⟩
def readHostI (s : ByteArray) (a : Int) : Host × Int := if (hostI s a).2 < 0 then (zeroHost, -1) else hostI s a
def readHostS (s : ByteArray) (a : Int) : Host × Int :=
  if (hostS s (a, false)).2.2 = true ∨ hostR (hostS s (a, false)).1 = false then (zeroHost, -1) else ((hostS s (a, false)).1, (hostS s (a, false)).2.1)
theorem hostR_labels {h : Host} (e : labelsR h.labels = false) : hostR h = false := by unfold hostR; rw [e]; simp
theorem readHost_same (s : ByteArray) (a : Int) : readHostI s a = readHostS s a := by
  obtain ⟨h1, e1⟩ := text_same (s := s) (weak_first a)
  obtain ⟨h2, e2⟩ := labels_same (s := s) h1.weak
  obtain ⟨h3, e3⟩ := rest_same (s := s) (nm := (textI s a).1) (nm' := (textS s (a, false)).1) h2 e1 e2
  have hI : (hostI s a).2 < 0 → readHostI s a = (zeroHost, -1) := fun h => by unfold readHostI; rw [if_pos h]
  have hS : (hostS s (a, false)).2.2 = true ∨ hostR (hostS s (a, false)).1 = false → readHostS s a = (zeroHost, -1) := fun h => by unfold readHostS; rw [if_pos h]
  cases hl : labelsR (labelsRaw s (textI s a).2).1 with
  | false =>
    have hneg : (labelsI s (textI s a).2).2 < 0 := by unfold labelsI; rw [hl]; simp
    have hn2 : (hostRaw s a).2 < 0 := restI_neg hneg
    rw [hI (by show (if _ then _ else _ : Int) < 0; split; exact hn2; decide)]
    rw [hS ?_]
    rcases Int.lt_or_le (labelsRaw s (textI s a).2).2 0 with hb | hb
    · left
      refine h3.2 (restI_neg hb)
    · right
      refine hostR_labels ?_
      show labelsR (labelsS s (textS s (a, false)).2).1 = false
      rw [← e2 hb]; exact hl
  | true =>
    have hle : labelsI s (textI s a).2 = labelsRaw s (textI s a).2 := by unfold labelsI; rw [hl, if_pos rfl]
    have hre : hostRaw s a = restI s (textI s a).1 (labelsRaw s (textI s a).2).1 (labelsRaw s (textI s a).2).2 := by unfold hostRaw; rw [hle]
    rcases Int.lt_or_le (restI s (textI s a).1 (labelsRaw s (textI s a).2).1 (labelsRaw s (textI s a).2).2).2 0 with hb | hb
    · rw [hI (by show (if _ then _ else _ : Int) < 0; rw [hre]; split; exact hb; decide), hS (.inl (h3.2 hb))]
    · have e4 := e3 hb
      have s4 := h3.1 hb
      have hh : (hostRaw s a).1 = (hostS s (a, false)).1 := by rw [hre, e4]; rfl
      have hs4 : (hostS s (a, false)).2 = ((hostRaw s a).2, false) := by rw [hre]; exact s4
      cases hr : hostR (hostS s (a, false)).1 with
      | false =>
        rw [hI (by show (if _ then _ else _ : Int) < 0; rw [hh, hr]; simp), hS (.inr hr)]
      | true =>
        have e5 : hostI s a = ((hostRaw s a).1, (hostRaw s a).2) := by unfold hostI; rw [hh, hr, if_pos rfl]
        have hge : ¬ (hostI s a).2 < 0 := by rw [e5, hre]; show ¬ _ < 0; omega
        unfold readHostI readHostS
        rw [if_neg hge, if_neg (by rw [hs4, hr]; simp), e5, hs4, hh]

end Go.Proofs.YtpgdgcjgompokaaGreat

namespace Go.Proofs.YtpgdgcjgompokaaGreat
open Go.ChangeShapes Go.WideShapes Go.ChangeAt Go.RowKit
set_option linter.unusedVariables false
set_option linter.unusedSimpArgs false
set_option maxRecDepth 100000 in
set_option maxHeartbeats 2000000 in
theorem HostOkC_impl (x : Host) (cs : List Value) (F : List Nat) (w : World) (h : rd w x cs F) (hns : (x.name.size : Int) ≤ 1048576) (hll : (x.labels.length : Int) ≤ 1048576) (hls : ∀ l ∈ x.labels, (l.key.size : Int) ≤ 1048576 ∧ (l.value.size : Int) ≤ 1048576) (htl : (x.taints.length : Int) ≤ 1048576) (hts : ∀ l ∈ x.taints, (l.key.size : Int) ≤ 1048576 ∧ (l.value.size : Int) ≤ 1048576) :
    Calls Tryz.prog 42 #[.agg cs.toArray] w fun e w' => e = .returned (.bool (hostR x)) ∧ Below w.heap.size w w' := by
  have HLS := Lib.hid hls
  have HTS := Lib.hid hts
  clear hls hts
  have hr := h
  obtain ⟨Alabels, clabels, Flabels, Ataints, ctaints, Ftaints, hck, hF, hname, hlabels, hcpu, hmem, hslots, htaints⟩ := rd_Host hr
  subst hck
  clear hr hF
  go_enter Tryz.func42, Tryz.ntmps42
  go_wp2_with (first
    | (go_at_call 68; refine (NameOk_impl x.name _ hns).mono ?_; rintro e w2 ⟨rfl, hb2⟩; obtain ⟨hc2, hf2⟩ := bcell hb2; have hz2 : w.heap.size < w2.heap.size := (by have := hb2.size; (try simp at this); omega))
    | (go_at_call 67; refine (LabelsOk_impl x.labels _ _ _ _ _ (hlabels.ext (by repeat (first | with_reducible exact ext_refl _ | with_reducible assumption | with_reducible refine ext_alloc ?_ _ | with_reducible refine ext_trans ?_ (by assumption)))) rfl hll HLS.out).mono ?_; rintro e w3 ⟨rfl, hb3⟩; obtain ⟨hc3, hf3⟩ := bcell hb3; have hz3 : w.heap.size < w3.heap.size := (by have := hb3.size; (try simp at this); omega))
    | (go_at_call 69; refine (TaintsOk_impl x.taints _ _ _ _ _ (htaints.ext (by repeat (first | with_reducible exact ext_refl _ | with_reducible assumption | with_reducible refine ext_alloc ?_ _ | with_reducible refine ext_trans ?_ (by assumption)))) rfl htl HTS.out).mono ?_; rintro e w4 ⟨rfl, hb4⟩; obtain ⟨hc4, hf4⟩ := bcell hb4; have hz4 : w.heap.size < w4.heap.size := (by have := hb4.size; (try simp at this); omega))
    | go_in)
  all_goals first
    | (go_ret; refine ⟨?_, (by repeat (first | with_reducible exact ext_refl _ | with_reducible assumption | with_reducible refine ext_alloc ?_ _ | with_reducible refine ext_trans ?_ (by assumption)))⟩; refine congrArg (fun b => Ending.returned (Value.bool b)) ?_; show (_ : Bool) = _; (try clear hc2 hf2); (try clear hc3 hf3); (try clear hc4 hf4); unfold hostR; first | (simp [*]; done) | (simp [*]; omega) | (simp_all; done) | (simp_all; omega))
    | skip
set_option maxRecDepth 100000 in
set_option maxHeartbeats 2000000 in
theorem HostOkC_spec (x : Host) (cs : List Value) (F : List Nat) (w : World) (h : rd w x cs F) (hns : (x.name.size : Int) ≤ 1048576) (hll : (x.labels.length : Int) ≤ 1048576) (hls : ∀ l ∈ x.labels, (l.key.size : Int) ≤ 1048576 ∧ (l.value.size : Int) ≤ 1048576) (htl : (x.taints.length : Int) ≤ 1048576) (hts : ∀ l ∈ x.taints, (l.key.size : Int) ≤ 1048576 ∧ (l.value.size : Int) ≤ 1048576) :
    Calls Tryz.prog 35 #[.agg cs.toArray] w fun e w' => e = .returned (.bool (hostR x)) ∧ Below w.heap.size w w' := by
  have HLS := Lib.hid hls
  have HTS := Lib.hid hts
  clear hls hts
  have hr := h
  obtain ⟨Alabels, clabels, Flabels, Ataints, ctaints, Ftaints, hck, hF, hname, hlabels, hcpu, hmem, hslots, htaints⟩ := rd_Host hr
  subst hck
  clear hr hF
  go_enter Tryz.func35, Tryz.ntmps35
  go_wp2_with (first
    | (go_at_call 60; refine (NameOk_spec x.name _ hns).mono ?_; rintro e w2 ⟨rfl, hb2⟩; obtain ⟨hc2, hf2⟩ := bcell hb2; have hz2 : w.heap.size < w2.heap.size := (by have := hb2.size; (try simp at this); omega))
    | (go_at_call 61; refine (LabelsOk_spec x.labels _ _ _ _ _ (hlabels.ext (by repeat (first | with_reducible exact ext_refl _ | with_reducible assumption | with_reducible refine ext_alloc ?_ _ | with_reducible refine ext_trans ?_ (by assumption)))) rfl hll HLS.out).mono ?_; rintro e w3 ⟨rfl, hb3⟩; obtain ⟨hc3, hf3⟩ := bcell hb3; have hz3 : w.heap.size < w3.heap.size := (by have := hb3.size; (try simp at this); omega))
    | (go_at_call 64; refine (TaintsOk_spec x.taints _ _ _ _ _ (htaints.ext (by repeat (first | with_reducible exact ext_refl _ | with_reducible assumption | with_reducible refine ext_alloc ?_ _ | with_reducible refine ext_trans ?_ (by assumption)))) rfl htl HTS.out).mono ?_; rintro e w4 ⟨rfl, hb4⟩; obtain ⟨hc4, hf4⟩ := bcell hb4; have hz4 : w.heap.size < w4.heap.size := (by have := hb4.size; (try simp at this); omega))
    | go_in)
  all_goals first
    | (go_ret; refine ⟨?_, (by repeat (first | with_reducible exact ext_refl _ | with_reducible assumption | with_reducible refine ext_alloc ?_ _ | with_reducible refine ext_trans ?_ (by assumption)))⟩; refine congrArg (fun b => Ending.returned (Value.bool b)) ?_; show (_ : Bool) = _; (try clear hc2 hf2); (try clear hc3 hf3); (try clear hc4 hf4); unfold hostR; first | (simp [*]; done) | (simp [*]; omega) | (simp_all; done) | (simp_all; omega))
    | skip

end Go.Proofs.YtpgdgcjgompokaaGreat
