/- A pod's reading, in plain Lean: the program's and the reference's end alike. No condition. -/
import Derived.Test.YtpgdgcjgompokaaGreatRdPl
import Derived.Test.YtpgdgcjgompokaaGreatPodOk
namespace Go.Proofs.YtpgdgcjgompokaaGreat
open Go.ChangeShapes Go.WideShapes Go.ChangeAt Go.RowKit
set_option linter.unusedVariables false
set_option linter.unusedSimpArgs false

theorem varI_negP {s : ByteArray} {a : Int} (h : a < 0) : (varI s a).2 < 0 := by rw [varI_neg h]; decide
theorem countI_negP {s : ByteArray} {most a : Int} (hm : 0 ≤ most) (h : a < 0) : countI s most a = (0, -1) := by
  unfold countI
  rw [varI_neg h, if_pos hm, if_pos (by decide)]
theorem text_sameP {s : ByteArray} {a : Int} {st : Int × Bool} (h : Same a st) : Same (textI s a).2 (textS s st).2 ∧ (0 ≤ (textI s a).2 → (textI s a).1 = (textS s st).1) :=
  ⟨(text_same (s := s) h.weak).1, fun _ => (text_same (s := s) h.weak).2⟩
/-- a loop of readings behind its number -/
def manyI {α : Type} (r : Int → α × Int) (s : ByteArray) (most : Int) (a : Int) : List α × Int := loopI r (countI s most a).1.toNat [] (countI s most a).2
def manyL {α : Type} (r : Int × Bool → α × (Int × Bool)) (s : ByteArray) (most : Int) (st : Int × Bool) : List α × (Int × Bool) := loopS r (manyS s most st).1.toNat [] (manyS s most st).2
theorem manyI_neg {α : Type} {r : Int → α × Int} (hr : ∀ a, a < 0 → (r a).2 < 0) {s : ByteArray} {most a : Int} (hm : 0 ≤ most) (h : a < 0) : (manyI r s most a).2 < 0 := by
  unfold manyI
  refine loopI_neg hr _ _ _ ?_
  rw [countI_negP hm h]
  decide
theorem manyL_same {α : Type} {r : Int → α × Int} {q : Int × Bool → α × (Int × Bool)} (hr : ∀ a, a < 0 → (r a).2 < 0) (h : ∀ a st, Same a st → Same (r a).2 (q st).2 ∧ (0 ≤ (r a).2 → (r a).1 = (q st).1))
    {s : ByteArray} {most a : Int} {st : Int × Bool} (hm : 0 ≤ most) (hs : Same a st) : Same (manyI r s most a).2 (manyL q s most st).2 ∧ (0 ≤ (manyI r s most a).2 → (manyI r s most a).1 = (manyL q s most st).1) := by
  obtain ⟨h1, e1⟩ := many_same (s := s) hm hs.weak
  unfold manyI manyL
  rw [← e1]
  exact loop_same hr h _ _ _ _ _ h1 (fun _ => rfl)
def needI (s : ByteArray) (a : Int) : Need × Int :=
  (⟨(textI s a).1, (varI s (textI s a).2).1, (manyI (textI s) s 4 (varI s (textI s a).2).2).1⟩, (manyI (textI s) s 4 (varI s (textI s a).2).2).2)
def needS (s : ByteArray) (st : Int × Bool) : Need × (Int × Bool) :=
  (⟨(textS s st).1, (numS s (textS s st).2).1, (manyL (textS s) s 4 (numS s (textS s st).2).2).1⟩, (manyL (textS s) s 4 (numS s (textS s st).2).2).2)
theorem needI_neg {s : ByteArray} {a : Int} (h : a < 0) : (needI s a).2 < 0 := manyI_neg (fun a ha => textI_neg ha) (by decide) (varI_negP (textI_neg h))
theorem need_same {s : ByteArray} {a : Int} {st : Int × Bool} (h : Same a st) : Same (needI s a).2 (needS s st).2 ∧ (0 ≤ (needI s a).2 → (needI s a).1 = (needS s st).1) := by
  obtain ⟨h1, e1⟩ := text_same (s := s) h.weak
  obtain ⟨h2, e2⟩ := num_same (s := s) h1.weak
  obtain ⟨h3, e3⟩ := manyL_same (r := textI s) (q := textS s) (fun a ha => textI_neg ha) (fun a st hs => text_sameP hs) (s := s) (most := 4) (by decide) h2
  exact ⟨h3, fun h0 => by unfold needI needS; rw [e1, e2, e3 h0]⟩
def tolI (s : ByteArray) (a : Int) : Tolerance × Int :=
  (⟨(textI s a).1, (countI s 1 (textI s a).2).1 == 1, (textI s (countI s 1 (textI s a).2).2).1, (varI s (textI s (countI s 1 (textI s a).2).2).2).1⟩, (varI s (textI s (countI s 1 (textI s a).2).2).2).2)
def tolS (s : ByteArray) (st : Int × Bool) : Tolerance × (Int × Bool) :=
  (⟨(textS s st).1, (manyS s 1 (textS s st).2).1 == 1, (textS s (manyS s 1 (textS s st).2).2).1, (numS s (textS s (manyS s 1 (textS s st).2).2).2).1⟩, (numS s (textS s (manyS s 1 (textS s st).2).2).2).2)
theorem tolI_neg {s : ByteArray} {a : Int} (h : a < 0) : (tolI s a).2 < 0 := by
  refine varI_negP (textI_neg ?_)
  rw [countI_negP (by decide) (textI_neg h)]
  decide
theorem tol_same {s : ByteArray} {a : Int} {st : Int × Bool} (h : Same a st) : Same (tolI s a).2 (tolS s st).2 ∧ (0 ≤ (tolI s a).2 → (tolI s a).1 = (tolS s st).1) := by
  obtain ⟨h1, e1⟩ := text_same (s := s) h.weak
  obtain ⟨h2, e2⟩ := many_same (s := s) (most := 1) (by decide) h1.weak
  obtain ⟨h3, e3⟩ := text_same (s := s) h2.weak
  obtain ⟨h4, e4⟩ := num_same (s := s) h3.weak
  exact ⟨h4, fun _ => by unfold tolI tolS; rw [e1, e2, e3, e4]⟩
/-- a pod behind its name and its labels -/
def restPI (s : ByteArray) (nm : ByteArray) (ls : List Label) (a : Int) : Pod × Int :=
  (⟨nm, ls, (varI s a).1, (varI s (varI s a).2).1, (varI s (varI s (varI s a).2).2).1, (manyI (needI s) s 4 (varI s (varI s (varI s a).2).2).2).1,
    (manyI (tolI s) s 4 (manyI (needI s) s 4 (varI s (varI s (varI s a).2).2).2).2).1⟩, (manyI (tolI s) s 4 (manyI (needI s) s 4 (varI s (varI s (varI s a).2).2).2).2).2)
def restPS (s : ByteArray) (nm : ByteArray) (ls : List Label) (st : Int × Bool) : Pod × (Int × Bool) :=
  (⟨nm, ls, (numS s st).1, (numS s (numS s st).2).1, (numS s (numS s (numS s st).2).2).1, (manyL (needS s) s 4 (numS s (numS s (numS s st).2).2).2).1,
    (manyL (tolS s) s 4 (manyL (needS s) s 4 (numS s (numS s (numS s st).2).2).2).2).1⟩, (manyL (tolS s) s 4 (manyL (needS s) s 4 (numS s (numS s (numS s st).2).2).2).2).2)
theorem restPI_neg {s nm : ByteArray} {ls : List Label} {a : Int} (h : a < 0) : (restPI s nm ls a).2 < 0 :=
  manyI_neg (fun a ha => tolI_neg ha) (by decide) (manyI_neg (fun a ha => needI_neg ha) (by decide) (varI_negP (varI_negP (varI_negP h))))
theorem restP_same {s nm nm' : ByteArray} {ls ls' : List Label} {a : Int} {st : Int × Bool} (h : Same a st) (hn : nm = nm') (hl : 0 ≤ a → ls = ls') : Same (restPI s nm ls a).2 (restPS s nm' ls' st).2 ∧ (0 ≤ (restPI s nm ls a).2 → (restPI s nm ls a).1 = (restPS s nm' ls' st).1) := by
  obtain ⟨h1, e1⟩ := num_same (s := s) h.weak
  obtain ⟨h2, e2⟩ := num_same (s := s) h1.weak
  obtain ⟨h3, e3⟩ := num_same (s := s) h2.weak
  obtain ⟨h4, e4⟩ := manyL_same (r := needI s) (q := needS s) (fun a ha => needI_neg ha) (fun a st hs => need_same hs) (s := s) (most := 4) (by decide) h3
  obtain ⟨h5, e5⟩ := manyL_same (r := tolI s) (q := tolS s) (fun a ha => tolI_neg ha) (fun a st hs => tol_same hs) (s := s) (most := 4) (by decide) h4
  refine ⟨h5, fun h0 => ?_⟩
  have hb : 0 ≤ (manyI (needI s) s 4 (varI s (varI s (varI s a).2).2).2).2 := by
    rcases Int.lt_or_le (manyI (needI s) s 4 (varI s (varI s (varI s a).2).2).2).2 0 with hlt | hge
    · exact absurd (manyI_neg (r := tolI s) (fun a ha => tolI_neg ha) (s := s) (most := 4) (by decide) hlt) (by have := h0; unfold restPI at this; dsimp only at this; omega)
    · exact hge
  have ha : 0 ≤ a := by
    rcases Int.lt_or_le a 0 with hlt | hge
    · exact absurd (restPI_neg (s := s) (nm := nm) (ls := ls) hlt) (by omega)
    · exact hge
  unfold restPI restPS
  dsimp only
  rw [hn, hl ha, e1, e2, e3, e4 hb, e5 h0]
def podRaw (s : ByteArray) (a : Int) : Pod × Int := restPI s (textI s a).1 (labelsI s (textI s a).2).1 (labelsI s (textI s a).2).2
def podI (s : ByteArray) (a : Int) : Pod × Int := ((podRaw s a).1, if podR (podRaw s a).1 = true then (podRaw s a).2 else -1)
def podS (s : ByteArray) (st : Int × Bool) : Pod × (Int × Bool) := restPS s (textS s st).1 (labelsS s (textS s st).2).1 (labelsS s (textS s st).2).2
def zeroPod : Pod := ⟨⟨#[]⟩, [], 0, 0, 0, [], []⟩
def readPodI (s : ByteArray) (a : Int) : Pod × Int := if (podI s a).2 < 0 then (zeroPod, -1) else podI s a
def readPodS (s : ByteArray) (a : Int) : Pod × Int :=
  if (podS s (a, false)).2.2 = true ∨ podR (podS s (a, false)).1 = false then (zeroPod, -1) else ((podS s (a, false)).1, (podS s (a, false)).2.1)
theorem podR_labels {h : Pod} (e : labelsR h.labels = false) : podR h = false := by unfold podR; rw [e]; simp
theorem readPod_same (s : ByteArray) (a : Int) : readPodI s a = readPodS s a := by
  obtain ⟨h1, e1⟩ := text_same (s := s) (weak_first a)
  obtain ⟨h2, e2⟩ := labels_same (s := s) h1.weak
  obtain ⟨h3, e3⟩ := restP_same (s := s) (nm := (textI s a).1) (nm' := (textS s (a, false)).1) h2 e1 e2
  have hI : (podI s a).2 < 0 → readPodI s a = (zeroPod, -1) := fun h => by unfold readPodI; rw [if_pos h]
  have hS : (podS s (a, false)).2.2 = true ∨ podR (podS s (a, false)).1 = false → readPodS s a = (zeroPod, -1) := fun h => by unfold readPodS; rw [if_pos h]
  cases hl : labelsR (labelsRaw s (textI s a).2).1 with
  | false =>
    have hneg : (labelsI s (textI s a).2).2 < 0 := by unfold labelsI; rw [hl]; simp
    have hn2 : (podRaw s a).2 < 0 := restPI_neg hneg
    rw [hI (by show (if _ then _ else _ : Int) < 0; split; exact hn2; decide)]
    rw [hS ?_]
    rcases Int.lt_or_le (labelsRaw s (textI s a).2).2 0 with hb | hb
    · left
      refine h3.2 (restPI_neg hb)
    · right
      refine podR_labels ?_
      show labelsR (labelsS s (textS s (a, false)).2).1 = false
      rw [← e2 hb]; exact hl
  | true =>
    have hle : labelsI s (textI s a).2 = labelsRaw s (textI s a).2 := by unfold labelsI; rw [hl, if_pos rfl]
    have hre : podRaw s a = restPI s (textI s a).1 (labelsRaw s (textI s a).2).1 (labelsRaw s (textI s a).2).2 := by unfold podRaw; rw [hle]
    rcases Int.lt_or_le (restPI s (textI s a).1 (labelsRaw s (textI s a).2).1 (labelsRaw s (textI s a).2).2).2 0 with hb | hb
    · rw [hI (by show (if _ then _ else _ : Int) < 0; rw [hre]; split; exact hb; decide), hS (.inl (h3.2 hb))]
    · have e4 := e3 hb
      have s4 := h3.1 hb
      have hh : (podRaw s a).1 = (podS s (a, false)).1 := by rw [hre, e4]; rfl
      have hs4 : (podS s (a, false)).2 = ((podRaw s a).2, false) := by rw [hre]; exact s4
      cases hr : podR (podS s (a, false)).1 with
      | false =>
        rw [hI (by show (if _ then _ else _ : Int) < 0; rw [hh, hr]; simp), hS (.inr hr)]
      | true =>
        have e5 : podI s a = ((podRaw s a).1, (podRaw s a).2) := by unfold podI; rw [hh, hr, if_pos rfl]
        have hge : ¬ (podI s a).2 < 0 := by rw [e5, hre]; show ¬ _ < 0; omega
        unfold readPodI readPodS
        rw [if_neg hge, if_neg (by rw [hs4, hr]; simp), e5, hs4, hh]

end Go.Proofs.YtpgdgcjgompokaaGreat

namespace Go.Proofs.YtpgdgcjgompokaaGreat
open Go.ChangeShapes Go.WideShapes Go.ChangeAt Go.RowKit
set_option linter.unusedVariables false
set_option linter.unusedSimpArgs false

def SmallN (l : Need) : Prop := (l.key.size : Int) ≤ 1048576 ∧ (l.values.length : Int) ≤ 1048576 ∧ ∀ v ∈ l.values, (v.size : Int) ≤ 1048576
def SmallT (l : Tolerance) : Prop := (l.key.size : Int) ≤ 1048576 ∧ (l.value.size : Int) ≤ 1048576
set_option maxRecDepth 100000 in
set_option maxHeartbeats 2000000 in
theorem PodOkC_impl (x : Pod) (cs : List Value) (F : List Nat) (w : World) (h : rd w x cs F) (hns : (x.name.size : Int) ≤ 1048576) (hll : (x.labels.length : Int) ≤ 1048576) (hls : ∀ l ∈ x.labels, (l.key.size : Int) ≤ 1048576 ∧ (l.value.size : Int) ≤ 1048576) (hnl : (x.needs.length : Int) ≤ 1048576) (hnds : ∀ l ∈ x.needs, SmallN l) (htl : (x.tolerances.length : Int) ≤ 1048576) (hts : ∀ l ∈ x.tolerances, SmallT l) :
    Calls Tryz.prog 43 #[.agg cs.toArray] w fun e w' => e = .returned (.bool (podR x)) ∧ Below w.heap.size w w' := by
  have HLS := Lib.hid hls
  have HNS := Lib.hid hnds
  have HTS := Lib.hid hts
  clear hls hts hnds
  have hr := h
  obtain ⟨Alabels, clabels, Flabels, Aneeds, cneeds, Fneeds, Atolerances, ctolerances, Ftolerances, hck, hF, hname, hlabels, hcpu, hmem, hrank, hneeds, htolerances⟩ := rd_Pod hr
  subst hck
  clear hr hF
  go_enter Tryz.func43, Tryz.ntmps43
  go_wp2_with (first
    | (go_at_call 68; refine (NameOk_impl x.name _ hns).mono ?_; rintro e w2 ⟨rfl, hb2⟩; obtain ⟨hc2, hf2⟩ := bcell hb2; have hz2 : w.heap.size < w2.heap.size := (by have := hb2.size; (try simp at this); omega))
    | (go_at_call 67; refine (LabelsOk_impl x.labels _ _ _ _ _ (hlabels.ext (by repeat (first | with_reducible exact ext_refl _ | with_reducible assumption | with_reducible refine ext_alloc ?_ _ | with_reducible refine ext_trans ?_ (by assumption)))) rfl hll HLS.out).mono ?_; rintro e w3 ⟨rfl, hb3⟩; obtain ⟨hc3, hf3⟩ := bcell hb3; have hz3 : w.heap.size < w3.heap.size := (by have := hb3.size; (try simp at this); omega))
    | (go_at_call 70; refine (SelectorOk_impl x.needs _ _ _ _ _ (hneeds.ext (by repeat (first | with_reducible exact ext_refl _ | with_reducible assumption | with_reducible refine ext_alloc ?_ _ | with_reducible refine ext_trans ?_ (by assumption)))) rfl hnl HNS.out).mono ?_; rintro e w4 ⟨rfl, hb4⟩; obtain ⟨hc4, hf4⟩ := bcell hb4; have hz4 : w.heap.size < w4.heap.size := (by have := hb4.size; (try simp at this); omega))
    | (go_at_call 71; refine (TolerancesOk_impl x.tolerances _ _ _ _ _ (htolerances.ext (by repeat (first | with_reducible exact ext_refl _ | with_reducible assumption | with_reducible refine ext_alloc ?_ _ | with_reducible refine ext_trans ?_ (by assumption)))) rfl htl HTS.out).mono ?_; rintro e w5 ⟨rfl, hb5⟩; obtain ⟨hc5, hf5⟩ := bcell hb5; have hz5 : w.heap.size < w5.heap.size := (by have := hb5.size; (try simp at this); omega))
    | go_in)
  all_goals first
    | (go_ret; refine ⟨?_, (by repeat (first | with_reducible exact ext_refl _ | with_reducible assumption | with_reducible refine ext_alloc ?_ _ | with_reducible refine ext_trans ?_ (by assumption)))⟩; refine congrArg (fun b => Ending.returned (Value.bool b)) ?_; show (_ : Bool) = _; (try clear hc2 hf2); (try clear hc3 hf3); (try clear hc4 hf4); (try clear hc5 hf5); unfold podR; first | (simp [*]; done) | (simp [*]; omega) | (simp_all; done) | (simp_all; omega))
    | skip
set_option maxRecDepth 100000 in
set_option maxHeartbeats 2000000 in
theorem PodOkC_spec (x : Pod) (cs : List Value) (F : List Nat) (w : World) (h : rd w x cs F) (hns : (x.name.size : Int) ≤ 1048576) (hll : (x.labels.length : Int) ≤ 1048576) (hls : ∀ l ∈ x.labels, (l.key.size : Int) ≤ 1048576 ∧ (l.value.size : Int) ≤ 1048576) (hnl : (x.needs.length : Int) ≤ 1048576) (hnds : ∀ l ∈ x.needs, SmallN l) (htl : (x.tolerances.length : Int) ≤ 1048576) (hts : ∀ l ∈ x.tolerances, SmallT l) :
    Calls Tryz.prog 33 #[.agg cs.toArray] w fun e w' => e = .returned (.bool (podR x)) ∧ Below w.heap.size w w' := by
  have HLS := Lib.hid hls
  have HNS := Lib.hid hnds
  have HTS := Lib.hid hts
  clear hls hts hnds
  have hr := h
  obtain ⟨Alabels, clabels, Flabels, Aneeds, cneeds, Fneeds, Atolerances, ctolerances, Ftolerances, hck, hF, hname, hlabels, hcpu, hmem, hrank, hneeds, htolerances⟩ := rd_Pod hr
  subst hck
  clear hr hF
  go_enter Tryz.func33, Tryz.ntmps33
  go_wp2_with (first
    | (go_at_call 60; refine (NameOk_spec x.name _ hns).mono ?_; rintro e w2 ⟨rfl, hb2⟩; obtain ⟨hc2, hf2⟩ := bcell hb2; have hz2 : w.heap.size < w2.heap.size := (by have := hb2.size; (try simp at this); omega))
    | (go_at_call 61; refine (LabelsOk_spec x.labels _ _ _ _ _ (hlabels.ext (by repeat (first | with_reducible exact ext_refl _ | with_reducible assumption | with_reducible refine ext_alloc ?_ _ | with_reducible refine ext_trans ?_ (by assumption)))) rfl hll HLS.out).mono ?_; rintro e w3 ⟨rfl, hb3⟩; obtain ⟨hc3, hf3⟩ := bcell hb3; have hz3 : w.heap.size < w3.heap.size := (by have := hb3.size; (try simp at this); omega))
    | (go_at_call 62; refine (SelectorOk_spec x.needs _ _ _ _ _ (hneeds.ext (by repeat (first | with_reducible exact ext_refl _ | with_reducible assumption | with_reducible refine ext_alloc ?_ _ | with_reducible refine ext_trans ?_ (by assumption)))) rfl hnl HNS.out).mono ?_; rintro e w4 ⟨rfl, hb4⟩; obtain ⟨hc4, hf4⟩ := bcell hb4; have hz4 : w.heap.size < w4.heap.size := (by have := hb4.size; (try simp at this); omega))
    | (go_at_call 63; refine (TolerancesOk_spec x.tolerances _ _ _ _ _ (htolerances.ext (by repeat (first | with_reducible exact ext_refl _ | with_reducible assumption | with_reducible refine ext_alloc ?_ _ | with_reducible refine ext_trans ?_ (by assumption)))) rfl htl HTS.out).mono ?_; rintro e w5 ⟨rfl, hb5⟩; obtain ⟨hc5, hf5⟩ := bcell hb5; have hz5 : w.heap.size < w5.heap.size := (by have := hb5.size; (try simp at this); omega))
    | go_in)
  all_goals first
    | (go_ret; refine ⟨?_, (by repeat (first | with_reducible exact ext_refl _ | with_reducible assumption | with_reducible refine ext_alloc ?_ _ | with_reducible refine ext_trans ?_ (by assumption)))⟩; refine congrArg (fun b => Ending.returned (Value.bool b)) ?_; show (_ : Bool) = _; (try clear hc2 hf2); (try clear hc3 hf3); (try clear hc4 hf4); (try clear hc5 hf5); unfold podR; first | (simp [*]; done) | (simp [*]; omega) | (simp_all; done) | (simp_all; omega))
    | skip

end Go.Proofs.YtpgdgcjgompokaaGreat
