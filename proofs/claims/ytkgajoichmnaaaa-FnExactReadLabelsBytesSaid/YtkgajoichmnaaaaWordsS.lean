/- l14Word, of the reference. No condition. -/
import Derived.Test.YtkgajoichmnaaaaWords
import Derived.Test.YtkgajoichmnaaaaRegion
namespace Go.Proofs.Ytkgajoichmnaaaa
open Dat (rd)
open Go.ChangeShapes Go.WideShapes Go.ChangeAt Go.RowKit
set_option linter.unusedVariables false
set_option linter.unusedSimpArgs false
/-- what the inner loop gathers -/
def anyTo (o : ByteArray) (c : UInt8) (k : Nat) : Bool := letterI c.toNat || (o.data.toList.take k).contains c
theorem anyTo_zero (o : ByteArray) (c : UInt8) : anyTo o c 0 = letterI c.toNat := by simp [anyTo]
theorem anyTo_full (o : ByteArray) (c : UInt8) : anyTo o c o.size = okB o c := by
  unfold anyTo okB
  rw [List.take_of_length_le (by rw [Array.length_toList]; exact Nat.le_refl _)]
theorem anyTo_succ {o : ByteArray} {c : UInt8} {k : Nat} (hk : k < o.size) : anyTo o c (k + 1) = (anyTo o c k || ((c.toNat : Int) == (o[k].toNat : Int))) := by
  have hk' : k < o.data.toList.length := by simpa using hk
  unfold anyTo
  rw [List.take_succ_eq_append_getElem hk', List.contains_eq_any_beq, List.contains_eq_any_beq, List.any_append, Bool.or_assoc]
  congr 2
  simp only [List.any_cons, List.any_nil, Bool.or_false, Array.getElem_toList]
  rw [Bool.eq_iff_iff, beq_iff_eq, beq_iff_eq, ByteArray.getElem_eq_getElem_data]
  constructor
  · intro h; rw [← h]
  · intro h; exact UInt8.toNat_inj.1 (by omega)
set_option maxRecDepth 100000 in
set_option maxHeartbeats 400000 in
theorem l14Word_spec (s o : ByteArray) (w : World) (hs2 : (s.size : Int) ≤ 1048576) (ho : (o.size : Int) ≤ 1048576) : Calls Try.prog 56 #[.string s, .string o] w fun e w' => e = .returned (.bool (wordR o s)) ∧ Below w.heap.size w w' := by
  by_cases hs : 0 < s.size
  · have hz : ((s.size : Int) == 0) = false := by rw [beq_eq_false_iff_ne]; omega
    cases h1 : letterI (s[0].toNat : Int) with
    | false =>
      have hfin : wordR o s = false := by unfold wordR; rw [byte_getD hs, h1]; simp
      have HF := Lib.hid hfin
      have H1 := Lib.hid h1
      clear h1 hfin
      go_enter Try.func56, Try.ntmps56
      go_wp2_with fail
      refine (l14Letter_any (s[0].toNat : Int) _).mono ?_
      rw [H1.out]
      rintro e w2 ⟨rfl, hw⟩
      rw [hw]
      clear hw w2
      go_wp2
      go_ret
      exact ⟨by rw [HF.out]; rfl, ext_refl _⟩
    | true =>
      cases h2 : letterI (s[s.size - 1].toNat : Int) with
      | false =>
        have hfin : wordR o s = false := by unfold wordR; rw [byte_getD hs, byte_getD (show s.size - 1 < s.size by omega), h1, h2]; simp
        have HF := Lib.hid hfin
        have H1 := Lib.hid h1
        have H2 := Lib.hid h2
        clear h1 h2 hfin
        go_enter Try.func56, Try.ntmps56
        go_wp2_with fail
        refine (l14Letter_any (s[0].toNat : Int) _).mono ?_
        rw [H1.out]
        rintro e w2 ⟨rfl, hw⟩
        rw [hw]
        clear hw w2
        go_wp2_with fail
        refine (l14Letter_any (s[s.size - 1].toNat : Int) _).mono ?_
        rw [H2.out]
        rintro e w2 ⟨rfl, hw⟩
        rw [hw]
        clear hw w2
        go_wp2
        go_ret
        exact ⟨by rw [HF.out]; rfl, ext_refl _⟩
      | true =>
        have hfin : wordR o s = s.data.toList.all (okB o) := by unfold wordR; rw [byte_getD hs, byte_getD (show s.size - 1 < s.size by omega), h1, h2]; simp [hs]
        have HF := Lib.hid hfin
        have H1 := Lib.hid h1
        have H2 := Lib.hid h2
        clear h1 h2 hfin
        go_enter Try.func56, Try.ntmps56
        go_wp2_with fail
        refine (l14Letter_any (s[0].toNat : Int) _).mono ?_
        rw [H1.out]
        rintro e w2 ⟨rfl, hw⟩
        rw [hw]
        clear hw w2
        go_wp2_with fail
        refine (l14Letter_any (s[s.size - 1].toNat : Int) _).mono ?_
        rw [H2.out]
        rintro e w2 ⟨rfl, hw⟩
        rw [hw]
        clear hw w2
        go_wp2_with fail
        go_loopw [5] (fun v wr => ∃ (k : Nat), k ≤ s.size ∧ v = .int .i64 k ∧ Hid (∀ j (hj : j < s.size), j < k → okB o s[j] = true) ∧ Below w.heap.size w wr) (fun v _ => s.size - (intOf v).toNat)
        case atStart => exact ⟨0, Nat.zero_le _, rfl, fun j _ hj => by omega, ext_refl _⟩
        case round =>
          obtain ⟨k, hk, rfl, hall, hbl⟩ := hrel
          by_cases hlt : k < s.size
          · go_wp2_with fail
            refine (l14Letter_any (s[k].toNat : Int) _).mono ?_
            rw [← anyTo_zero o s[k]]
            rintro e w2 ⟨rfl, hw⟩
            rw [hw]
            clear hw w2
            go_wp2_with fail
            go_loopw [6, 7] (fun v u wi => ∃ (j : Nat), j ≤ o.size ∧ u = .int .i64 j ∧ v = .bool (anyTo o s[k] j) ∧ Below w.heap.size w wi) (fun _ u _ => o.size - (intOf u).toNat)
            case atStart => exact ⟨0, Nat.zero_le _, rfl, rfl, hbl⟩
            case round =>
              obtain ⟨j, hj, rfl, rfl, hbi⟩ := hrel
              by_cases hjl : j < o.size
              · have HA := Lib.hid (anyTo_succ (c := s[k]) hjl)
                generalize hb : anyTo o s[k] j = b at *
                cases b
                all_goals
                  clear hb
                  go_wp2_with fail
                  refine wp_region_grow _ (by kernel_rfl) (by kernel_rfl) (ext_refl _) ?_
                  repeat (first
                    | (apply inText_skip
                       case hw => rfl
                       simp only [Act.put, List.setIfInBounds_toArray, List.set_cons_zero, List.set_cons_succ])
                    | (apply inText_step
                       case hw => rfl
                       case h =>
                         intro wq hq
                         have hcq := (cls_cell hq).1
                         have hfq := (cls_cell hq).2
                         go_simp
                         first
                           | exact ⟨hq, rfl⟩
                           | exact ⟨cls_alloc hq _, rfl⟩
                           | (fail)
                           | (simp only [↓IntWalk.iteOmega]; exact ⟨hq, rfl⟩)
                       simp only [Act.put, List.setIfInBounds_toArray, List.set_cons_zero, List.set_cons_succ]))
                  refine inText_nil ?_
                  intro wn hn
                  replace hn := hn.out
                  go_wp2
                  exact ⟨⟨j + 1, by omega, by go_num, by rw [HA.out]; rfl, ext_trans hbi hn⟩, by simp [intOf]; omega⟩
              · have hjo : j = o.size := by omega
                subst hjo
                rw [anyTo_full]
                cases hok : okB o s[k] with
                | true =>
                  have HN := Lib.hid (all_next hlt hall.out hok)
                  clear hok
                  go_wp2
                  exact ⟨⟨k + 1, by omega, by go_num, HN.out, hbi⟩, by simp [intOf]; omega⟩
                | false =>
                  have HG := Lib.hid (not_all_bytes hlt hok)
                  clear hok
                  go_wp2
                  go_ret
                  exact ⟨by rw [HF.out, HG.out]; rfl, hbi⟩
          · have hkl : k = s.size := by omega
            subst hkl
            have HG := Lib.hid (all_bytes (p := okB o) (fun j hj => hall.out j hj hj))
            go_wp2
            go_ret
            exact ⟨by rw [HF.out, HG.out]; rfl, hbl⟩
  · have hs0 : s.size = 0 := by omega
    have hfin : wordR o s = false := by unfold wordR; simp [hs0]
    have HF := Lib.hid hfin
    clear hfin
    go_enter Try.func56, Try.ntmps56
    go_wp2
    go_ret
    exact ⟨by rw [HF.out]; rfl, ext_refl _⟩

end Go.Proofs.Ytkgajoichmnaaaa
