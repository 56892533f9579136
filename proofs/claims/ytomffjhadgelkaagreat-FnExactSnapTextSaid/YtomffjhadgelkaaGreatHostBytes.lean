/- HostBytes, of the program and of the reference. No condition. -/
import Derived.Test.YtomffjhadgelkaaGreatHostOk
import Derived.Test.YtomffjhadgelkaaGreatLabelsBytes
namespace Go.Proofs.YtomffjhadgelkaaGreat
open Go.ChangeShapes Go.WideShapes Go.ChangeAt Go.RowKit
set_option linter.unusedVariables false
set_option linter.unusedSimpArgs false

def taintBytes (t : Taint) : ByteArray := shortText t.key ++ shortText t.value ++ varText t.effect
def hostHead (x : Host) : ByteArray := shortText x.name ++ labelsBytes x.labels ++ varText x.cpu ++ varText x.mem ++ varText x.slots ++ varText x.taints.length
def hostBody (x : Host) (k : Nat) : ByteArray := (x.taints.take k).foldl (fun s t => s ++ taintBytes t) (hostHead x)
def hostBytes (x : Host) : ByteArray := if hostR x then hostBody x x.taints.length else ⟨#[]⟩
theorem hostBody_next {x : Host} {k : Nat} (h : k < x.taints.length) : hostBody x (k + 1) = hostBody x k ++ taintBytes x.taints[k] := foldl_take _ _ _ _ h
theorem taintBytes_size {t : Taint} (h1 : (t.key.size : Int) ≤ 1048576) (h2 : (t.value.size : Int) ≤ 1048576) (h3 : I64 t.effect) : (taintBytes t).size ≤ 2097182 := by
  have a := shortText_size t.key (by omega)
  have b := shortText_size t.value (by omega)
  have c := varText_size t.effect h3
  unfold taintBytes
  rw [ByteArray.size_append, ByteArray.size_append]
  omega
theorem labelsBytes_sizeH (xs : List Label) (hl : (xs.length : Int) ≤ 1048576) (hx : ∀ l ∈ xs, (l.key.size : Int) ≤ 1048576 ∧ (l.value.size : Int) ≤ 1048576) : ((labelsBytes xs).size : Int) ≤ 2199045931018 := by
  have h1 := labels_size xs (varText xs.length) hx xs.length (Nat.le_refl _)
  rw [List.take_length] at h1
  have h2 := varText_size xs.length ⟨by omega, by omega⟩
  have h3 : xs.length * 2097172 ≤ 1048576 * 2097172 := Nat.mul_le_mul_right _ (by omega)
  unfold labelsBytes
  omega
theorem Sl.taint_I64 {w : World} {xs : List Taint} {A : Option Addr} {c : Nat} {F : List Nat} (h : Sl w xs A c F) : ∀ t ∈ xs, I64 t.effect := by
  intro p hp
  obtain ⟨k, hk, rfl⟩ := List.getElem_of_mem hp
  obtain ⟨b, o, ck, Fk, _, _, _, hr, _, _⟩ := h.get hk
  obtain ⟨rfl, rfl, hkey, hvalue, heffect⟩ := rd_Taint hr
  exact heffect
theorem hostBody_size (x : Host) (hx : ∀ t ∈ x.taints, (t.key.size : Int) ≤ 1048576 ∧ (t.value.size : Int) ≤ 1048576) (hi : ∀ t ∈ x.taints, I64 t.effect) : ∀ k, k ≤ x.taints.length → (hostBody x k).size ≤ (hostHead x).size + k * 2097182
  | 0, _ => by simp [hostBody]
  | k + 1, h => by
    rw [hostBody_next (by omega), ByteArray.size_append]
    have h1 := hostBody_size x hx hi k (by omega)
    have h2 := taintBytes_size (hx x.taints[k] (List.getElem_mem ..)).1 (hx x.taints[k] (List.getElem_mem ..)).2 (hi x.taints[k] (List.getElem_mem ..))
    omega
set_option maxRecDepth 100000 in
set_option maxHeartbeats 2000000 in
theorem HostBytes_impl (x : Host) (cs : List Value) (F : List Nat) (w : World) (h : rd w x cs F) (hw : (x.wt : Int) ≤ 1048576) :
    Calls Tryz.prog 51 #[.agg cs.toArray] w fun e w' => e = .returned (.string (hostBytes x)) ∧ Below w.heap.size w w' := by
  have hwx : x.wt = x.name.size + wtL Label.wt x.labels + wtL Taint.wt x.taints := rfl
  obtain ⟨hll, hls⟩ := labels_small (xs := x.labels) (by omega)
  obtain ⟨htl, hts⟩ := taints_small (xs := x.taints) (by omega)
  have hns : (x.name.size : Int) ≤ 1048576 := by omega
  have HLS := Lib.hid hls
  have HTS := Lib.hid hts
  clear hls hts
  have hr := h
  obtain ⟨Alabels, clabels, Flabels, Ataints, ctaints, Ftaints, hck, hF, hname, hlabels, hcpu, hmem, hslots, htaints⟩ := rd_Host hr
  subst hck
  clear hr hF
  cases hR : hostR x with
  | false =>
    have hfin : hostBytes x = ⟨#[]⟩ := by unfold hostBytes; rw [hR]; rfl
    have HF := Lib.hid hfin
    have HR := Lib.hid hR
    clear hfin hR
    go_enter Tryz.func51, Tryz.ntmps51
    go_wp2_with fail
    refine (HostOk_impl x _ _ _ (rd_extT h (by repeat (first | with_reducible exact ext_refl _ | with_reducible assumption | with_reducible refine ext_alloc ?_ _ | with_reducible refine ext_trans ?_ (by assumption)))) hw).mono ?_
    rw [HR.out]
    rintro e w2 ⟨rfl, hb2⟩
    go_wp2
    go_ret
    exact ⟨by rw [HF.out]; rfl, (by repeat (first | with_reducible exact ext_refl _ | with_reducible assumption | with_reducible refine ext_alloc ?_ _ | with_reducible refine ext_trans ?_ (by assumption)))⟩
  | true =>
    have hfin : hostBytes x = hostBody x x.taints.length := by unfold hostBytes; rw [hR]; rfl
    have HF := Lib.hid hfin
    have HR := Lib.hid hR
    clear hfin hR
    go_enter Tryz.func51, Tryz.ntmps51
    go_wp2_with fail
    refine (HostOk_impl x _ _ _ (rd_extT h (by repeat (first | with_reducible exact ext_refl _ | with_reducible assumption | with_reducible refine ext_alloc ?_ _ | with_reducible refine ext_trans ?_ (by assumption)))) hw).mono ?_
    rw [HR.out]
    rintro e w2 ⟨rfl, hb2⟩
    obtain ⟨hc2, hf2⟩ := bcell hb2; have hz2 : w.heap.size < w2.heap.size := (by have := hb2.size; (try simp at this); omega)
    have hq1 := shortText_size x.name (by omega)
    have hq2 := labelsBytes_sizeH x.labels hll HLS.out
    have hq3 := varText_size x.cpu hcpu
    have hq4 := varText_size x.mem hmem
    have hq5 := varText_size x.slots hslots
    have hlI : I64 (x.taints.length : Int) := by unfold I64; omega
    have hq6 := varText_size x.taints.length hlI
    have hbox : w2.cell? ⟨w.heap.size, 5, none⟩ = some (.slice Ataints x.taints.length ctaints) := by
      rw [hc2 _ _ (by simp), cell_of_row _ _ _ _ _ _ (heap_alloc_new w _)]; rfl
    have hB2 : Below w.heap.size w w2 := (by repeat (first | with_reducible exact ext_refl _ | with_reducible assumption | with_reducible refine ext_alloc ?_ _ | with_reducible refine ext_trans ?_ (by assumption)))
    have hTI := Lib.hid htaints.taint_I64
    have hhs : (hostHead x).size ≤ 2199046980000 := by
      unfold hostHead
      simp only [ByteArray.size_append]
      omega
    go_wp2_with fail
    refine wp_region_grow w2 (by kernel_rfl) (by kernel_rfl) (ext_refl _) ?_
    repeat (first
      | (apply inText_skip
         case hw => rfl
         simp only [Act.put, List.setIfInBounds_toArray, List.set_cons_zero, List.set_cons_succ])
      | (apply inText_step
         case hw => rfl
         case h =>
           intro wq hq
           have hcq := (cls_cell hq).1
           have hfq := (cls_cell hq).2
           go_simp
           first
             | exact ⟨hq, rfl⟩
             | exact ⟨cls_alloc hq _, rfl⟩
             | (first | (refine (ShortText_impl x.name _ (by omega)).mono ?_; rintro e wz ⟨rfl, hbz0⟩; exact ⟨rfl, cls_trans hq hbz0⟩) | (refine (LabelsBytes_impl x.labels _ _ _ _ (hlabels.ext (ext_trans hB2 hq)) hll HLS.out).mono ?_; rintro e wz ⟨rfl, hbz0⟩; exact ⟨rfl, cls_trans hq hbz0⟩) | (refine (VarText_impl _ _ (by first | assumption | (unfold I64; omega))).mono ?_; rintro e wz ⟨rfl, hbz0⟩; exact ⟨rfl, cls_trans hq hbz0⟩))
             | (simp only [↓IntWalk.iteOmega]; exact ⟨hq, rfl⟩)
         simp only [Act.put, List.setIfInBounds_toArray, List.set_cons_zero, List.set_cons_succ]))
    refine inText_nil ?_
    intro wn hn
    replace hn := hn.out
    have hbn : wn.cell? ⟨w.heap.size, 5, none⟩ = some (.slice Ataints x.taints.length ctaints) := ((bcell hn).1 _ _ hz2).trans hbox
    go_wp2_with fail
    go_loopw [3, 36] (fun s i wr => ∃ k : Nat, k ≤ x.taints.length ∧ i = .int .i64 k ∧ s = .string (hostBody x k) ∧ wr.cell? ⟨w.heap.size, 5, none⟩ = some (.slice Ataints x.taints.length ctaints) ∧ Below w.heap.size w wr) (fun _ i _ => x.taints.length - (intOf i).toNat)
    case atStart => exact ⟨0, Nat.zero_le _, rfl, rfl, hbn, ext_trans hB2 hn⟩
    case round =>
      obtain ⟨k, hk, rfl, rfl, hbx, hbl⟩ := hrel
      have hbz : w.heap.size < wr.heap.size := World.block_lt_of_cell? wr _ hbx
      by_cases hlt : k < x.taints.length
      · obtain ⟨b, o, ck, Fk, rfl, hbF, hbs, hr, hsub, hc⟩ := (Sl.ext (w' := wr) (A := Ataints) (c := ctaints) htaints hbl).get hlt
        obtain ⟨hck, hFk, hkey3, hvalue3, heffect3⟩ := rd_Taint hr
        subst hck
        have q0 : wr.cell? ⟨b, o + k * 3, none⟩ = some (.string x.taints[k].key) := by exact hc 0 _ rfl
        have q1 : wr.cell? ⟨b, o + k * 3 + 1, none⟩ = some (.string x.taints[k].value) := by rw [Nat.add_assoc]; exact hc 1 _ rfl
        have q2 : wr.cell? ⟨b, o + k * 3 + 2, none⟩ = some (.int .i64 x.taints[k].effect) := by rw [Nat.add_assoc]; exact hc 2 _ rfl
        clear hc
        obtain ⟨hs1, hs2⟩ := HTS.out x.taints[k] (List.getElem_mem ..)
        have hp1 := shortText_size x.taints[k].key (by omega)
        have hp2 := shortText_size x.taints[k].value (by omega)
        have hp3 := varText_size x.taints[k].effect heffect3
        have hbs0 := hostBody_size x HTS.out hTI.out k hk
        have hkk : k * 2097182 ≤ 1048576 * 2097182 := Nat.mul_le_mul_right _ (by omega)
        have hnx := hostBody_next hlt
        have HN := Lib.hid hnx
        clear hnx
        generalize hS : hostBody x k = S0 at HN hbs0 ⊢
        go_wp2_with fail
        refine wp_region_grow _ (by kernel_rfl) (by kernel_rfl) (ext_refl _) ?_
        repeat (first
          | (apply inText_skip
             case hw => rfl
             simp only [Act.put, List.setIfInBounds_toArray, List.set_cons_zero, List.set_cons_succ])
          | (apply inText_step
             case hw => rfl
             case h =>
               intro wq hq
               have hcq := (cls_cell hq).1
               have hfq := (cls_cell hq).2
               go_simp
               first
                 | exact ⟨hq, rfl⟩
                 | exact ⟨cls_alloc hq _, rfl⟩
                 | (first | (refine (ShortText_impl _ _ (by omega)).mono ?_; rintro e wz ⟨rfl, hbz0⟩; exact ⟨rfl, cls_trans hq hbz0⟩) | (refine (VarText_impl _ _ (by assumption)).mono ?_; rintro e wz ⟨rfl, hbz0⟩; exact ⟨rfl, cls_trans hq hbz0⟩))
                 | (simp only [↓IntWalk.iteOmega]; exact ⟨hq, rfl⟩)
             simp only [Act.put, List.setIfInBounds_toArray, List.set_cons_zero, List.set_cons_succ]))
        refine inText_nil ?_
        intro wn3 hn3
        replace hn3 := hn3.out
        go_wp2
        exact ⟨⟨k + 1, by omega, by go_num, by rw [HN.out]; unfold taintBytes; simp only [ByteArray.append_assoc], ((bcell hn3).1 _ _ (by simp; omega)).trans ((World.cell?_of_block (heap_alloc_old wr _ hbz)).trans hbx), ext_trans (ext_alloc hbl _) hn3⟩, by simp [intOf]; omega⟩
      · have hkl : k = x.taints.length := by omega
        subst hkl
        go_wp2
        go_ret
        exact ⟨by rw [HF.out]; rfl, hbl⟩
set_option maxRecDepth 100000 in
set_option maxHeartbeats 2000000 in
theorem HostBytes_spec (x : Host) (cs : List Value) (F : List Nat) (w : World) (h : rd w x cs F) (hw : (x.wt : Int) ≤ 1048576) :
    Calls Tryz.prog 46 #[.agg cs.toArray] w fun e w' => e = .returned (.string (hostBytes x)) ∧ Below w.heap.size w w' := by
  have hwx : x.wt = x.name.size + wtL Label.wt x.labels + wtL Taint.wt x.taints := rfl
  obtain ⟨hll, hls⟩ := labels_small (xs := x.labels) (by omega)
  obtain ⟨htl, hts⟩ := taints_small (xs := x.taints) (by omega)
  have hns : (x.name.size : Int) ≤ 1048576 := by omega
  have HLS := Lib.hid hls
  have HTS := Lib.hid hts
  clear hls hts
  have hr := h
  obtain ⟨Alabels, clabels, Flabels, Ataints, ctaints, Ftaints, hck, hF, hname, hlabels, hcpu, hmem, hslots, htaints⟩ := rd_Host hr
  subst hck
  clear hr hF
  cases hR : hostR x with
  | false =>
    have hfin : hostBytes x = ⟨#[]⟩ := by unfold hostBytes; rw [hR]; rfl
    have HF := Lib.hid hfin
    have HR := Lib.hid hR
    clear hfin hR
    go_enter Tryz.func46, Tryz.ntmps46
    go_wp2_with fail
    refine (HostOk_spec x _ _ _ (rd_extT h (by repeat (first | with_reducible exact ext_refl _ | with_reducible assumption | with_reducible refine ext_alloc ?_ _ | with_reducible refine ext_trans ?_ (by assumption)))) hw).mono ?_
    rw [HR.out]
    rintro e w2 ⟨rfl, hb2⟩
    go_wp2
    go_ret
    exact ⟨by rw [HF.out]; rfl, (by repeat (first | with_reducible exact ext_refl _ | with_reducible assumption | with_reducible refine ext_alloc ?_ _ | with_reducible refine ext_trans ?_ (by assumption)))⟩
  | true =>
    have hfin : hostBytes x = hostBody x x.taints.length := by unfold hostBytes; rw [hR]; rfl
    have HF := Lib.hid hfin
    have HR := Lib.hid hR
    clear hfin hR
    go_enter Tryz.func46, Tryz.ntmps46
    go_wp2_with fail
    refine (HostOk_spec x _ _ _ (rd_extT h (by repeat (first | with_reducible exact ext_refl _ | with_reducible assumption | with_reducible refine ext_alloc ?_ _ | with_reducible refine ext_trans ?_ (by assumption)))) hw).mono ?_
    rw [HR.out]
    rintro e w2 ⟨rfl, hb2⟩
    obtain ⟨hc2, hf2⟩ := bcell hb2; have hz2 : w.heap.size < w2.heap.size := (by have := hb2.size; (try simp at this); omega)
    have hq1 := shortText_size x.name (by omega)
    have hq2 := labelsBytes_sizeH x.labels hll HLS.out
    have hq3 := varText_size x.cpu hcpu
    have hq4 := varText_size x.mem hmem
    have hq5 := varText_size x.slots hslots
    have hlI : I64 (x.taints.length : Int) := by unfold I64; omega
    have hq6 := varText_size x.taints.length hlI
    have hbox : w2.cell? ⟨w.heap.size, 5, none⟩ = some (.slice Ataints x.taints.length ctaints) := by
      rw [hc2 _ _ (by simp), cell_of_row _ _ _ _ _ _ (heap_alloc_new w _)]; rfl
    have hB2 : Below w.heap.size w w2 := (by repeat (first | with_reducible exact ext_refl _ | with_reducible assumption | with_reducible refine ext_alloc ?_ _ | with_reducible refine ext_trans ?_ (by assumption)))
    have hTI := Lib.hid htaints.taint_I64
    have hhs : (hostHead x).size ≤ 2199046980000 := by
      unfold hostHead
      simp only [ByteArray.size_append]
      omega
    go_wp2_with fail
    refine wp_region_grow w2 (by kernel_rfl) (by kernel_rfl) (ext_refl _) ?_
    repeat (first
      | (apply inText_skip
         case hw => rfl
         simp only [Act.put, List.setIfInBounds_toArray, List.set_cons_zero, List.set_cons_succ])
      | (apply inText_step
         case hw => rfl
         case h =>
           intro wq hq
           have hcq := (cls_cell hq).1
           have hfq := (cls_cell hq).2
           go_simp
           first
             | exact ⟨hq, rfl⟩
             | exact ⟨cls_alloc hq _, rfl⟩
             | (first | (refine (ShortText_spec x.name _ (by omega)).mono ?_; rintro e wz ⟨rfl, hbz0⟩; exact ⟨rfl, cls_trans hq hbz0⟩) | (refine (LabelsBytes_spec x.labels _ _ _ _ (hlabels.ext (ext_trans hB2 hq)) hll HLS.out).mono ?_; rintro e wz ⟨rfl, hbz0⟩; exact ⟨rfl, cls_trans hq hbz0⟩) | (refine (VarText_spec _ _ (by first | assumption | (unfold I64; omega))).mono ?_; rintro e wz ⟨rfl, hbz0⟩; exact ⟨rfl, cls_trans hq hbz0⟩))
             | (simp only [↓IntWalk.iteOmega]; exact ⟨hq, rfl⟩)
         simp only [Act.put, List.setIfInBounds_toArray, List.set_cons_zero, List.set_cons_succ]))
    refine inText_nil ?_
    intro wn hn
    replace hn := hn.out
    have hbn : wn.cell? ⟨w.heap.size, 5, none⟩ = some (.slice Ataints x.taints.length ctaints) := ((bcell hn).1 _ _ hz2).trans hbox
    go_wp2_with fail
    go_loopw [3, 4] (fun s i wr => ∃ k : Nat, k ≤ x.taints.length ∧ i = .int .i64 k ∧ s = .string (hostBody x k) ∧ wr.cell? ⟨w.heap.size, 5, none⟩ = some (.slice Ataints x.taints.length ctaints) ∧ Below w.heap.size w wr) (fun _ i _ => x.taints.length - (intOf i).toNat)
    case atStart => exact ⟨0, Nat.zero_le _, rfl, rfl, hbn, ext_trans hB2 hn⟩
    case round =>
      obtain ⟨k, hk, rfl, rfl, hbx, hbl⟩ := hrel
      have hbz : w.heap.size < wr.heap.size := World.block_lt_of_cell? wr _ hbx
      by_cases hlt : k < x.taints.length
      · obtain ⟨b, o, ck, Fk, rfl, hbF, hbs, hr, hsub, hc⟩ := (Sl.ext (w' := wr) (A := Ataints) (c := ctaints) htaints hbl).get hlt
        obtain ⟨hck, hFk, hkey3, hvalue3, heffect3⟩ := rd_Taint hr
        subst hck
        have q0 : wr.cell? ⟨b, o + k * 3, none⟩ = some (.string x.taints[k].key) := by exact hc 0 _ rfl
        have q1 : wr.cell? ⟨b, o + k * 3 + 1, none⟩ = some (.string x.taints[k].value) := by rw [Nat.add_assoc]; exact hc 1 _ rfl
        have q2 : wr.cell? ⟨b, o + k * 3 + 2, none⟩ = some (.int .i64 x.taints[k].effect) := by rw [Nat.add_assoc]; exact hc 2 _ rfl
        clear hc
        obtain ⟨hs1, hs2⟩ := HTS.out x.taints[k] (List.getElem_mem ..)
        have hp1 := shortText_size x.taints[k].key (by omega)
        have hp2 := shortText_size x.taints[k].value (by omega)
        have hp3 := varText_size x.taints[k].effect heffect3
        have hbs0 := hostBody_size x HTS.out hTI.out k hk
        have hkk : k * 2097182 ≤ 1048576 * 2097182 := Nat.mul_le_mul_right _ (by omega)
        have hnx := hostBody_next hlt
        have HN := Lib.hid hnx
        clear hnx
        generalize hS : hostBody x k = S0 at HN hbs0 ⊢
        go_wp2_with fail
        refine wp_region_grow _ (by kernel_rfl) (by kernel_rfl) (ext_refl _) ?_
        repeat (first
          | (apply inText_skip
             case hw => rfl
             simp only [Act.put, List.setIfInBounds_toArray, List.set_cons_zero, List.set_cons_succ])
          | (apply inText_step
             case hw => rfl
             case h =>
               intro wq hq
               have hcq := (cls_cell hq).1
               have hfq := (cls_cell hq).2
               go_simp
               first
                 | exact ⟨hq, rfl⟩
                 | exact ⟨cls_alloc hq _, rfl⟩
                 | (first | (refine (ShortText_spec _ _ (by omega)).mono ?_; rintro e wz ⟨rfl, hbz0⟩; exact ⟨rfl, cls_trans hq hbz0⟩) | (refine (VarText_spec _ _ (by assumption)).mono ?_; rintro e wz ⟨rfl, hbz0⟩; exact ⟨rfl, cls_trans hq hbz0⟩))
                 | (simp only [↓IntWalk.iteOmega]; exact ⟨hq, rfl⟩)
             simp only [Act.put, List.setIfInBounds_toArray, List.set_cons_zero, List.set_cons_succ]))
        refine inText_nil ?_
        intro wn3 hn3
        replace hn3 := hn3.out
        go_wp2
        exact ⟨⟨k + 1, by omega, by go_num, by rw [HN.out]; unfold taintBytes; simp only [ByteArray.append_assoc], ((bcell hn3).1 _ _ hbz).trans hbx, ext_trans hbl hn3⟩, by simp [intOf]; omega⟩
      · have hkl : k = x.taints.length := by omega
        subst hkl
        go_wp2
        go_ret
        exact ⟨by rw [HF.out]; rfl, hbl⟩

end Go.Proofs.YtomffjhadgelkaaGreat
