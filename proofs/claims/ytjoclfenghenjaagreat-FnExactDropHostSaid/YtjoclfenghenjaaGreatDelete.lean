/- slices.Delete of one host, of one pod. No condition. -/
import Derived.Test.YtjoclfenghenjaaGreatDelP
import Derived.Test.YtjoclfenghenjaaGreatBase0
import Derived.Deep.RegionLaw
import Derived.Deep.MidRow
namespace Go.Proofs.YtjoclfenghenjaaGreat
open Go.ChangeShapes Go.WideShapes Go.ChangeAt Go.RowKit
set_option linter.unusedVariables false
set_option linter.unusedSimpArgs false
theorem info0Host : (Tryz.prog.info? 82).map (fun i => (i.zero, i.size, i.bytes)) = some (some ((.agg #[.string ⟨#[]⟩, .slice none 0 0, .int .i64 0, .int .i64 0, .int .i64 0, .slice none 0 0])), 6, 88) := by kernel_rfl
set_option maxRecDepth 1000000 in
set_option maxHeartbeats 4000000 in
/-- slices.Delete of one element -/
theorem deleteHost_any (xs : List Host) (A : Option Addr) (c B i j : Nat) (F : List Nat) (w : World) (h : Own w B xs [.slice A xs.length c] F) (hi : i < xs.length) (hl : xs.length ≤ 1048576) (hj : Hid (i + 1 = j)) :
    Calls Tryz.prog 50 #[.slice A xs.length c, .int .i64 i, .int .i64 j] w fun e w' => ∃ F', e = .returned (.slice A (xs.length - 1) c) ∧ Own w' B (xs.eraseIdx i) [.slice A (xs.length - 1) c] F' ∧ (∀ y ∈ F', y ∈ F) ∧ Upd F w w' := by
  obtain ⟨b, o, ds, rfl, hbF, hbs, hcap, hmx, hdl, h1, hcell, hpl, hfin⟩ := h.del hi
  have hS : Dat.size Host = 6 := rfl
  rw [hS] at hdl hfin
  clear hS h
  have HF := Lib.hid hfin
  have HJ := hj.out
  clear hfin
  obtain ⟨i0, hi0, hz0, hz1, hz2⟩ := info_parts info0Host
  have hjn : j ≤ xs.length := by omega
  generalize hn : xs.length = n at *
  have HN := Lib.hid hn
  clear hn
  obtain ⟨news, hnews⟩ : ∃ news, news = ds.drop (j * 6) := ⟨_, rfl⟩
  have hlen : news.length = (n - j) * 6 := by rw [hnews, List.length_drop, hdl, Nat.sub_mul]
  have hget : ∀ t, t < (n - j) * 6 → news[t]? = ds[j * 6 + t]? := fun t ht => by rw [hnews, List.getElem?_drop]
  obtain ⟨A0, hA, hsrc⟩ : ∃ A0 : Addr, (if c = j then some (⟨b, o, none⟩ : Addr) else some ⟨b, o + j * 6, none⟩) = some A0 ∧ Hid (∀ t u, news[t]? = some u → w.drew.cell? (A0.add t) = some u) := by
    by_cases hc : c = j
    · refine ⟨⟨b, o, none⟩, by simp [hc], fun t u hu => ?_⟩
      have h0 : news.length = 0 := by rw [hlen, show n - j = 0 by omega, Nat.zero_mul]
      rw [List.length_eq_zero_iff.1 h0] at hu
      simp at hu
    · refine ⟨⟨b, o + j * 6, none⟩, by simp [hc], fun t u hu => ?_⟩
      have ht : t < (n - j) * 6 := by
        have := (List.getElem?_eq_some_iff.1 hu).1
        rwa [hlen] at this
      rw [hget t ht] at hu
      rw [Addr.add_lit, show o + j * 6 + t = o + (j * 6 + t) by omega]
      exact hcell _ u hu
  have hsome : ∀ q, q < n * 6 → (w.cell? ⟨b, o + q, none⟩).isSome = true := fun q hq => by rw [hcell q ds[q] (List.getElem?_eq_getElem (by omega))]; rfl
  have s1 : Hid (news.length = (n - j) * 6) := hlen
  have s2 : Hid (∀ u ∈ news, u.oneCell' = true) := fun u hu => h1 u (by rw [hnews] at hu; exact List.mem_of_mem_drop hu)
  have s3 : Hid (∀ t, t < news.length → (w.drew.cell? ⟨b, o + i * 6 + t, none⟩).isSome = true ∧ w.drew.frozen? ⟨b, o + i * 6 + t, none⟩ = false) := fun t ht => by
    rw [hlen] at ht
    rw [Nat.add_assoc]
    exact ⟨hsome _ (by omega), hpl.frozen _⟩
  obtain ⟨W1, hW1⟩ : ∃ W1, W1 = w.drew.setCells b (o + i * 6) news := ⟨_, rfl⟩
  have hplain1 : Plain W1 b := by rw [hW1]; exact setCells_plain b _ _ _ hpl
  have hsome1 : ∀ q, q < n * 6 → (W1.cell? ⟨b, o + q, none⟩).isSome = true := fun q hq => by rw [hW1]; exact World.isSome_setCells b _ _ _ _ (hsome q hq)
  have hcl : ∀ ty, (Builtin.clear_ #[29] ty #[.slice (some ⟨b, o + (i + (n - j)) * 6, none⟩) (n - (i + (n - j))) (c - (i + (n - j)))]).run Tryz.prog W1 = .ok (.tuple #[]) (W1.setCells b (o + (i + (n - j)) * 6) ((.agg #[.string ⟨#[]⟩, .slice none 0 0, .int .i64 0, .int .i64 0, .int .i64 0, .slice none 0 0]) : Value).cells.toList) := fun ty => by
    rw [show n - (i + (n - j)) = 1 by omega]
    refine run_clear_one W1 _ 82 ty (.agg #[.string ⟨#[]⟩, .slice none 0 0, .int .i64 0, .int .i64 0, .int .i64 0, .slice none 0 0]) Tryz.underlying29 (fun w => by simp [zeroValue, typeInfo, hi0, hz0]) (by decide) b _ _ (fun q hq => ?_) (fun q hq => hplain1.frozen _)
    rw [Nat.add_assoc]
    refine hsome1 _ ?_
    replace hq : q < 6 := hq
    omega
  have hW : Hid (W1 = w.drew.setCells b (o + i * 6) news) := hW1
  have hnw : Hid (news = ds.drop (j * 6)) := hnews
  have hic : i ≤ c := by omega
  have hjc : j ≤ c := by omega
  have HC := Lib.hid hcell
  have HDL := Lib.hid hdl
  clear hW1 hget hnews hlen hsome hsome1 hcell hdl h1 hz2
  go_enter Tryz.func50, Tryz.ntmps50
  go_wp2_with fail
  go_region_law (refine step_append_room rfl (.tmp 22) (.tmp 25) 29 rfl 82 i0 6 Tryz.underlying29 hi0 hz1 b o i c (by simp [Act.eval, Act.put]) A0 (n - j) (c - j) news (by simp [Act.eval, Act.put]) s1.out hsrc.out s2.out (by omega) s3.out ?_; rw [← hW.out])
  go_wp2
  go_ret
  have hcell := HC.out
  have hdl := HDL.out
  have hlenN : news.length = (n - j) * 6 := s1.out
  have hin : i * 6 + (n - j) * 6 = (i + (n - j)) * 6 := (Nat.add_mul ..).symm
  obtain ⟨F', hO, hs⟩ := HF.out (W1.setCells b (o + (i + (n - j)) * 6) ([.string ⟨#[]⟩, .slice none 0 0, .int .i64 0, .int .i64 0, .int .i64 0, .slice none 0 0] : List Value)) (fun k hk => by rw [setCells_block b hk, hW.out, setCells_block b hk]; rfl) (by rw [setCells_size, hW.out, setCells_size]; rfl) (setCells_plain b _ _ _ hplain1) (by
    intro q u hq
    rw [HJ, ← hnw.out] at hq
    have hql := (List.getElem?_eq_some_iff.1 hq).1
    rw [List.length_append, List.length_take, hdl, hlenN, Nat.min_eq_left (by have : i * 6 ≤ n * 6 := Nat.mul_le_mul_right _ (by omega); omega)] at hql
    rw [World.cell?_setCells_out b _ _ _ _ (fun _ _ => Or.inl (by dsimp only; omega)), hW.out]
    by_cases hqi : q < i * 6
    · rw [List.getElem?_append_left (by rw [List.length_take, hdl]; omega), List.getElem?_take, if_pos hqi] at hq
      rw [World.cell?_setCells_out b _ _ _ _ (fun _ _ => Or.inl (by dsimp only; omega))]
      exact hcell q u hq
    · have hln : (ds.take (i * 6)).length = i * 6 := by rw [List.length_take, hdl]; omega
      rw [List.getElem?_append_right (by omega), hln] at hq
      obtain ⟨hq2, hq3⟩ := List.getElem?_eq_some_iff.1 hq
      have hin2 := World.cell?_setCells_in b news (o + i * 6) w.drew (fun t ht => (s3.out t ht).1) (q - i * 6) hq2
      rw [show o + i * 6 + (q - i * 6) = o + q by omega, hq3] at hin2
      exact hin2)
  refine ⟨F', ?_, hO, hs, ?_⟩
  · rw [show n - 1 = i + (n - j) by omega]; rfl
  · have e1 := setCells_rest b ([.string ⟨#[]⟩, .slice none 0 0, .int .i64 0, .int .i64 0, .int .i64 0, .slice none 0 0] : List Value) (o + (i + (n - j)) * 6) W1
    have e2 := setCells_rest b news (o + i * 6) w.drew
    rw [← hW.out] at e2
    exact ⟨e1.1.trans e2.1, e1.2.1.trans e2.2.1, e1.2.2.trans e2.2.2, by rw [setCells_size, hW.out, setCells_size]; exact Nat.le_refl _, fun k _ hk => by have hkb : k ≠ b := (by rintro rfl; exact hk hbF); rw [setCells_block b hkb, hW.out, setCells_block b hkb]; rfl⟩
theorem info0Placed : (Tryz.prog.info? 78).map (fun i => (i.zero, i.size, i.bytes)) = some (some ((.agg #[.string ⟨#[]⟩, .slice none 0 0, .int .i64 0, .int .i64 0, .int .i64 0, .slice none 0 0, .slice none 0 0, .string ⟨#[]⟩, .int .i64 0])), 9, 136) := by kernel_rfl
set_option maxRecDepth 1000000 in
set_option maxHeartbeats 4000000 in
/-- slices.Delete of one element -/
theorem deletePlaced_any (xs : List Placed) (A : Option Addr) (c B i j : Nat) (F : List Nat) (w : World) (h : Own w B xs [.slice A xs.length c] F) (hi : i < xs.length) (hl : xs.length ≤ 1048576) (hj : Hid (i + 1 = j)) :
    Calls Tryz.prog 53 #[.slice A xs.length c, .int .i64 i, .int .i64 j] w fun e w' => ∃ F', e = .returned (.slice A (xs.length - 1) c) ∧ Own w' B (xs.eraseIdx i) [.slice A (xs.length - 1) c] F' ∧ (∀ y ∈ F', y ∈ F) ∧ Upd F w w' := by
  obtain ⟨b, o, ds, rfl, hbF, hbs, hcap, hmx, hdl, h1, hcell, hpl, hfin⟩ := h.del hi
  have hS : Dat.size Placed = 9 := rfl
  rw [hS] at hdl hfin
  clear hS h
  have HF := Lib.hid hfin
  have HJ := hj.out
  clear hfin
  obtain ⟨i0, hi0, hz0, hz1, hz2⟩ := info_parts info0Placed
  have hjn : j ≤ xs.length := by omega
  generalize hn : xs.length = n at *
  have HN := Lib.hid hn
  clear hn
  obtain ⟨news, hnews⟩ : ∃ news, news = ds.drop (j * 9) := ⟨_, rfl⟩
  have hlen : news.length = (n - j) * 9 := by rw [hnews, List.length_drop, hdl, Nat.sub_mul]
  have hget : ∀ t, t < (n - j) * 9 → news[t]? = ds[j * 9 + t]? := fun t ht => by rw [hnews, List.getElem?_drop]
  obtain ⟨A0, hA, hsrc⟩ : ∃ A0 : Addr, (if c = j then some (⟨b, o, none⟩ : Addr) else some ⟨b, o + j * 9, none⟩) = some A0 ∧ Hid (∀ t u, news[t]? = some u → w.drew.cell? (A0.add t) = some u) := by
    by_cases hc : c = j
    · refine ⟨⟨b, o, none⟩, by simp [hc], fun t u hu => ?_⟩
      have h0 : news.length = 0 := by rw [hlen, show n - j = 0 by omega, Nat.zero_mul]
      rw [List.length_eq_zero_iff.1 h0] at hu
      simp at hu
    · refine ⟨⟨b, o + j * 9, none⟩, by simp [hc], fun t u hu => ?_⟩
      have ht : t < (n - j) * 9 := by
        have := (List.getElem?_eq_some_iff.1 hu).1
        rwa [hlen] at this
      rw [hget t ht] at hu
      rw [Addr.add_lit, show o + j * 9 + t = o + (j * 9 + t) by omega]
      exact hcell _ u hu
  have hsome : ∀ q, q < n * 9 → (w.cell? ⟨b, o + q, none⟩).isSome = true := fun q hq => by rw [hcell q ds[q] (List.getElem?_eq_getElem (by omega))]; rfl
  have s1 : Hid (news.length = (n - j) * 9) := hlen
  have s2 : Hid (∀ u ∈ news, u.oneCell' = true) := fun u hu => h1 u (by rw [hnews] at hu; exact List.mem_of_mem_drop hu)
  have s3 : Hid (∀ t, t < news.length → (w.drew.cell? ⟨b, o + i * 9 + t, none⟩).isSome = true ∧ w.drew.frozen? ⟨b, o + i * 9 + t, none⟩ = false) := fun t ht => by
    rw [hlen] at ht
    rw [Nat.add_assoc]
    exact ⟨hsome _ (by omega), hpl.frozen _⟩
  obtain ⟨W1, hW1⟩ : ∃ W1, W1 = w.drew.setCells b (o + i * 9) news := ⟨_, rfl⟩
  have hplain1 : Plain W1 b := by rw [hW1]; exact setCells_plain b _ _ _ hpl
  have hsome1 : ∀ q, q < n * 9 → (W1.cell? ⟨b, o + q, none⟩).isSome = true := fun q hq => by rw [hW1]; exact World.isSome_setCells b _ _ _ _ (hsome q hq)
  have hcl : ∀ ty, (Builtin.clear_ #[30] ty #[.slice (some ⟨b, o + (i + (n - j)) * 9, none⟩) (n - (i + (n - j))) (c - (i + (n - j)))]).run Tryz.prog W1 = .ok (.tuple #[]) (W1.setCells b (o + (i + (n - j)) * 9) ((.agg #[.string ⟨#[]⟩, .slice none 0 0, .int .i64 0, .int .i64 0, .int .i64 0, .slice none 0 0, .slice none 0 0, .string ⟨#[]⟩, .int .i64 0]) : Value).cells.toList) := fun ty => by
    rw [show n - (i + (n - j)) = 1 by omega]
    refine run_clear_one W1 _ 78 ty (.agg #[.string ⟨#[]⟩, .slice none 0 0, .int .i64 0, .int .i64 0, .int .i64 0, .slice none 0 0, .slice none 0 0, .string ⟨#[]⟩, .int .i64 0]) Tryz.underlying30 (fun w => by simp [zeroValue, typeInfo, hi0, hz0]) (by decide) b _ _ (fun q hq => ?_) (fun q hq => hplain1.frozen _)
    rw [Nat.add_assoc]
    refine hsome1 _ ?_
    replace hq : q < 9 := hq
    omega
  have hW : Hid (W1 = w.drew.setCells b (o + i * 9) news) := hW1
  have hnw : Hid (news = ds.drop (j * 9)) := hnews
  have hic : i ≤ c := by omega
  have hjc : j ≤ c := by omega
  have HC := Lib.hid hcell
  have HDL := Lib.hid hdl
  clear hW1 hget hnews hlen hsome hsome1 hcell hdl h1 hz2
  go_enter Tryz.func53, Tryz.ntmps53
  go_wp2_with fail
  go_region_law (refine step_append_room rfl (.tmp 22) (.tmp 25) 30 rfl 78 i0 9 Tryz.underlying30 hi0 hz1 b o i c (by simp [Act.eval, Act.put]) A0 (n - j) (c - j) news (by simp [Act.eval, Act.put]) s1.out hsrc.out s2.out (by omega) s3.out ?_; rw [← hW.out])
  go_wp2
  go_ret
  have hcell := HC.out
  have hdl := HDL.out
  have hlenN : news.length = (n - j) * 9 := s1.out
  have hin : i * 9 + (n - j) * 9 = (i + (n - j)) * 9 := (Nat.add_mul ..).symm
  obtain ⟨F', hO, hs⟩ := HF.out (W1.setCells b (o + (i + (n - j)) * 9) ([.string ⟨#[]⟩, .slice none 0 0, .int .i64 0, .int .i64 0, .int .i64 0, .slice none 0 0, .slice none 0 0, .string ⟨#[]⟩, .int .i64 0] : List Value)) (fun k hk => by rw [setCells_block b hk, hW.out, setCells_block b hk]; rfl) (by rw [setCells_size, hW.out, setCells_size]; rfl) (setCells_plain b _ _ _ hplain1) (by
    intro q u hq
    rw [HJ, ← hnw.out] at hq
    have hql := (List.getElem?_eq_some_iff.1 hq).1
    rw [List.length_append, List.length_take, hdl, hlenN, Nat.min_eq_left (by have : i * 9 ≤ n * 9 := Nat.mul_le_mul_right _ (by omega); omega)] at hql
    rw [World.cell?_setCells_out b _ _ _ _ (fun _ _ => Or.inl (by dsimp only; omega)), hW.out]
    by_cases hqi : q < i * 9
    · rw [List.getElem?_append_left (by rw [List.length_take, hdl]; omega), List.getElem?_take, if_pos hqi] at hq
      rw [World.cell?_setCells_out b _ _ _ _ (fun _ _ => Or.inl (by dsimp only; omega))]
      exact hcell q u hq
    · have hln : (ds.take (i * 9)).length = i * 9 := by rw [List.length_take, hdl]; omega
      rw [List.getElem?_append_right (by omega), hln] at hq
      obtain ⟨hq2, hq3⟩ := List.getElem?_eq_some_iff.1 hq
      have hin2 := World.cell?_setCells_in b news (o + i * 9) w.drew (fun t ht => (s3.out t ht).1) (q - i * 9) hq2
      rw [show o + i * 9 + (q - i * 9) = o + q by omega, hq3] at hin2
      exact hin2)
  refine ⟨F', ?_, hO, hs, ?_⟩
  · rw [show n - 1 = i + (n - j) by omega]; rfl
  · have e1 := setCells_rest b ([.string ⟨#[]⟩, .slice none 0 0, .int .i64 0, .int .i64 0, .int .i64 0, .slice none 0 0, .slice none 0 0, .string ⟨#[]⟩, .int .i64 0] : List Value) (o + (i + (n - j)) * 9) W1
    have e2 := setCells_rest b news (o + i * 9) w.drew
    rw [← hW.out] at e2
    exact ⟨e1.1.trans e2.1, e1.2.1.trans e2.2.1, e1.2.2.trans e2.2.2, by rw [setCells_size, hW.out, setCells_size]; exact Nat.le_refl _, fun k _ hk => by have hkb : k ≠ b := (by rintro rfl; exact hk hbF); rw [setCells_block b hkb, hW.out, setCells_block b hkb]; rfl⟩

end Go.Proofs.YtjoclfenghenjaaGreat
