/- Waiting of the program. No condition. -/
import Derived.Test.YtjoclfenghenjaaWaitC
namespace Go.Proofs.Ytjoclfenghenjaa
open Go.ChangeShapes Go.WideShapes Go.ChangeAt Go.RowKit
set_option linter.unusedVariables false
set_option linter.unusedSimpArgs false

theorem infoPlacedW : (Try.prog.info? 51).map (fun i => (i.zero, i.size, i.bytes)) = some (some (.agg #[.string ⟨#[]⟩, .slice none 0 0, .int .i64 0, .int .i64 0, .int .i64 0, .slice none 0 0, .slice none 0 0, .string ⟨#[]⟩, .int .i64 0]), 9, 136) := by kernel_rfl
theorem elPlacedW : ElOk Try.prog 32 51 (.agg #[.string ⟨#[]⟩, .slice none 0 0, .int .i64 0, .int .i64 0, .int .i64 0, .slice none 0 0, .slice none 0 0, .string ⟨#[]⟩, .int .i64 0]) 9 136 := ⟨Try.underlying32, infoPlacedW, rfl, by omega⟩
theorem infoStringW : (Try.prog.info? 9).map (fun i => (i.zero, i.size, i.bytes)) = some (some (.string ⟨#[]⟩), 1, 16) := by kernel_rfl
theorem elStringW : ElOk Try.prog 29 9 (.string ⟨#[]⟩) 1 16 := ⟨Try.underlying29, infoStringW, rfl, by omega⟩
theorem flat_get : ∀ (rs : List PRow) (k : Nat) (x : PRow), rs[k]? = some x → ∀ (j : Nat) (u : Value), (prow x)[j]? = some u → (rs.flatMap prow)[k * 9 + j]? = some u
  | [], _, _, h, _, _, _ => by simp at h
  | r :: rs, 0, x, h, j, u, hj => by
    simp at h
    subst h
    rw [List.flatMap_cons, Nat.zero_mul, Nat.zero_add, List.getElem?_append_left (List.getElem?_eq_some_iff.1 hj).1]
    exact hj
  | r :: rs, k + 1, x, h, j, u, hj => by
    rw [List.getElem?_cons_succ] at h
    have hl : (prow r).length = 9 := rfl
    rw [List.flatMap_cons, List.getElem?_append_right (by omega), hl, show (k + 1) * 9 + j - 9 = k * 9 + j by omega]
    exact flat_get rs k x h j u hj
theorem mem_sortW {β : Type} {lt : β → β → Bool} {z : β} : ∀ (ys acc : List β), z ∈ sortB lt acc ys → z ∈ acc ∨ z ∈ ys
  | [], acc, h => .inl h
  | y :: ys, acc, h => by
    rw [sortB] at h
    rcases mem_sortW ys _ h with h | h
    · rw [insB_eq_merge] at h
      rcases mem_mergeB h with h | h
      · exact .inl h
      · rw [List.mem_singleton.1 h]; exact .inr (List.mem_cons_self ..)
    · exact .inr (List.mem_cons_of_mem _ h)
theorem rdCells_strw (w : World) : ∀ ys : List ByteArray, (∀ y ∈ ys, y.size ≤ maxLen) → rdCells w ys (ys.map Value.string) []
  | [], _ => ⟨rfl, rfl⟩
  | y :: ys, h => ⟨[.string y], ys.map Value.string, [], [], rfl, rfl, ⟨rfl, rfl, h y (List.mem_cons_self ..)⟩, rdCells_strw w ys fun z hz => h z (List.mem_cons_of_mem _ hz)⟩
theorem row_sliceW {w : World} {B e size n : Nat} {v : Value} {xs : List Value} (h : w.ownsRow B e size v n xs) : ∃ A c, v = .slice A n c := by
  rcases h.2 with ⟨rfl, hn⟩ | ⟨g, cap, cur, rfl, _⟩
  · subst hn; exact ⟨none, 0, rfl⟩
  · exact ⟨_, _, rfl⟩
theorem row_tab {w : World} {B e g cap : Nat} {rs : List PRow} (h : w.ownsRow B e 9 (.slice (some ⟨g, 0, none⟩) rs.length cap) rs.length (rs.flatMap prow)) : Stab prow 9 w w g 0 rs := by
  refine ⟨fun k x hk j u hj => ?_, ?_, .refl _ _⟩
  · have := (row_cellI h).2.2.2 (k * 9 + j) u (flat_get rs k x hk j u hj)
    rw [Nat.zero_add]; exact this
  · rcases h.2 with ⟨h1, _⟩ | ⟨g', cap', cur, h1, h2, h3, _⟩
    · cases h1
    · simp only [Value.slice.injEq, Option.some.injEq, Addr.mk.injEq, and_true, true_and] at h1
      obtain ⟨rfl, rfl⟩ := h1
      exact ⟨cur, e, h3⟩
theorem names_own {w : World} {B e B' : Nat} {v : Value} {xs : List ByteArray} {n : Nat} (h : w.ownsRow B e 1 v n (xs.map Value.string)) (hn : n = xs.length) (hB : B' ≤ B) (hz : ∀ y ∈ xs, y.size ≤ maxLen) :
    ∃ A c G, v = .slice A xs.length c ∧ Own w B' xs [.slice A xs.length c] G := by
  subst hn
  exact Own.of_row (e := e) (ds := xs.map Value.string) (F := []) (row_mono h hB) ⟨rdCells_strw w _ hz, List.nodup_nil, (fun b hb => by cases hb), (fun b hb => by cases hb)⟩ (fun g _ hm => by cases hm)
set_option maxRecDepth 100000 in
set_option maxHeartbeats 4000000 in
theorem Waiting_impl (x : Cluster) (cs : List Value) (F : List Nat) (w : World) (h : rd w x cs F) (hl : (x.pods.length : Int) ≤ 1048576) :
    Calls Try.prog 7 #[.agg cs.toArray] w fun e w' => ∃ A c G, e = .returned (.slice A (waitL x.pods).length c) ∧ Own w' w.heap.size (waitL x.pods) [.slice A (waitL x.pods).length c] G ∧ Below w.heap.size w w' := by
  obtain ⟨Ahosts, chosts, Fhosts, Apods, cpods, Fpods, hck, hF0, hhosts, hpods, hnext, hweightspack, hweightsspread, hweightssoft⟩ := rd_Cluster h
  subst hck
  clear hF0
  go_enter Try.func7, Try.ntmps7
  go_wp2_with fail
  go_loopw [3, 13] (fun v i wr => ∃ (k : Nat) (rs : List PRow), k ≤ x.pods.length ∧ rs.length ≤ k ∧ i = .int .i64 (k : Int) ∧ Hid (rs.map prk = pend (x.pods.take k)) ∧ Hid (∀ r ∈ rs, r.name.size ≤ maxLen) ∧ wr.ownsRow (w.heap.size + 1) 51 9 v rs.length (rs.flatMap prow) ∧ Below w.heap.size w wr) (fun _ i _ => x.pods.length - (intOf i).toNat)
  case atStart =>
    refine ⟨0, [], Nat.zero_le _, Nat.le_refl _, rfl, Lib.hid rfl, Lib.hid (fun r hr => by cases hr), ?_, ext_alloc (ext_alloc (ext_refl _) _) _⟩
    exact row_newI (w.alloc (.cells #[.slice Ahosts x.hosts.length chosts, .slice Apods x.pods.length cpods, .int .i64 x.next, .int .i64 x.weights.pack, .int .i64 x.weights.spread, .int .i64 x.weights.soft] 35)) 51 9 (w.heap.size + 1) (by simp)
  case round =>
    obtain ⟨k, rs, hk, hrk, rfl, HP, HZ, hown, hbl⟩ := hrel
    by_cases hlt : k < x.pods.length
    · obtain ⟨b, o, ck, Fk, rfl, hbF, hbs, hr, hsub, hc⟩ := Sl.get (α := Placed) (A := Apods) (c := cpods) hpods hlt
      obtain ⟨c1, c2, F1, F2, rfl, rfl, hrp, _, _, _, _, rfl, rfl, ⟨rfl, rfl, hon⟩, ⟨rfl, rfl, hseq⟩⟩ := hr
      have hrp0 := hrp
      obtain ⟨Apodlabels, cpodlabels, Fpodlabels, Apodneeds, cpodneeds, Fpodneeds, Apodtolerances, cpodtolerances, Fpodtolerances, hck, hFk, hpodname, hpodlabels, hpodcpu, hpodmem, hpodrank, hpodneeds, hpodtolerances⟩ := rd_Pod hrp
      subst hck
      clear hFk hrp hpodlabels hpodneeds hpodtolerances
      have q0 : w.cell? ⟨b, o + k * 9, none⟩ = some (.string x.pods[k].pod.name) := by exact hc 0 _ rfl
      have q1 : w.cell? ⟨b, o + k * 9 + 1, none⟩ = some (.slice Apodlabels x.pods[k].pod.labels.length cpodlabels) := by rw [Nat.add_assoc]; exact hc 1 _ rfl
      have q2 : w.cell? ⟨b, o + k * 9 + 2, none⟩ = some (.int .i64 x.pods[k].pod.cpu) := by rw [Nat.add_assoc]; exact hc 2 _ rfl
      have q3 : w.cell? ⟨b, o + k * 9 + 3, none⟩ = some (.int .i64 x.pods[k].pod.mem) := by rw [Nat.add_assoc]; exact hc 3 _ rfl
      have q4 : w.cell? ⟨b, o + k * 9 + 4, none⟩ = some (.int .i64 x.pods[k].pod.rank) := by rw [Nat.add_assoc]; exact hc 4 _ rfl
      have q5 : w.cell? ⟨b, o + k * 9 + 5, none⟩ = some (.slice Apodneeds x.pods[k].pod.needs.length cpodneeds) := by rw [Nat.add_assoc]; exact hc 5 _ rfl
      have q6 : w.cell? ⟨b, o + k * 9 + 6, none⟩ = some (.slice Apodtolerances x.pods[k].pod.tolerances.length cpodtolerances) := by rw [Nat.add_assoc]; exact hc 6 _ rfl
      have q7 : w.cell? ⟨b, o + k * 9 + 7, none⟩ = some (.string x.pods[k].on) := by rw [Nat.add_assoc]; exact hc 7 _ rfl
      have q8 : w.cell? ⟨b, o + k * 9 + 8, none⟩ = some (.int .i64 x.pods[k].seq) := by rw [Nat.add_assoc]; exact hc 8 _ rfl
      clear hc
      replace q0 := ((bcell hbl).1 b _ hbs).trans q0
      replace q1 := ((bcell hbl).1 b _ hbs).trans q1
      replace q2 := ((bcell hbl).1 b _ hbs).trans q2
      replace q3 := ((bcell hbl).1 b _ hbs).trans q3
      replace q4 := ((bcell hbl).1 b _ hbs).trans q4
      replace q5 := ((bcell hbl).1 b _ hbs).trans q5
      replace q6 := ((bcell hbl).1 b _ hbs).trans q6
      replace q7 := ((bcell hbl).1 b _ hbs).trans q7
      replace q8 := ((bcell hbl).1 b _ hbs).trans q8
      clear hrp0
      cases hp : (x.pods[k].on.toList == []) with
      | false =>
        have HN := Lib.hid (pend_no hlt hp)
        go_wp2_with fail
        exact ⟨⟨k + 1, rs, by omega, by omega, by go_num, Lib.hid (by rw [HN.out]; exact HP.out), HZ, hown.alloc _, ext_alloc hbl _⟩, by simp [intOf]; omega⟩
      | true =>
        have HY := Lib.hid (pend_yes hlt hp)
        go_wp2_with (
          at_builtin
          go_must (refine wpList_append1 elPlacedW (by rfl) _ _ (by rfl) _ _ _ _ _ (hown.alloc _) (by rfl) [.string x.pods[k].pod.name, .slice Apodlabels x.pods[k].pod.labels.length cpodlabels, .int .i64 x.pods[k].pod.cpu, .int .i64 x.pods[k].pod.mem, .int .i64 x.pods[k].pod.rank, .slice Apodneeds x.pods[k].pod.needs.length cpodneeds, .slice Apodtolerances x.pods[k].pod.tolerances.length cpodtolerances, .string x.pods[k].on, .int .i64 x.pods[k].seq] (by first | rfl | (simp; rfl)) (by rfl) (by simp [Value.oneCell']) (by omega) (by omega) (by have := hbl.size; (try simp); omega) ?_)
          intro v2 w2 hown2 hg2 hz2
          go_must (have hb2 : Below w.heap.size w w2 := grown_ext (B := w.heap.size) ((row_mono hown (Nat.le_succ _)).alloc _) hg2 (ext_alloc hbl _) (by have := hbl.size; simp; omega)))
        refine ⟨⟨k + 1, rs ++ [⟨x.pods[k].pod.name, Apodlabels, x.pods[k].pod.labels.length, cpodlabels, x.pods[k].pod.cpu, x.pods[k].pod.mem, x.pods[k].pod.rank, Apodneeds, x.pods[k].pod.needs.length, cpodneeds, Apodtolerances, x.pods[k].pod.tolerances.length, cpodtolerances, x.pods[k].on, x.pods[k].seq⟩], by omega, by rw [List.length_append]; simp; omega, by go_num, Lib.hid (by rw [HY.out, List.map_append, HP.out]; rfl), Lib.hid (fun r hr => ?_), ?_, hb2⟩, by simp [intOf]; omega⟩
        · rcases List.mem_append.1 hr with hr | hr
          · exact HZ.out r hr
          · rw [List.mem_singleton.1 hr]; exact hpodname
        · rw [List.length_append, List.flatMap_append]
          exact hown2
    · have hkl : k = x.pods.length := by omega
      subst hkl
      have hpe := HP.out
      rw [List.take_length] at hpe
      have hws : ((sortB (ltV prV) [] rs).map PRow.name) = waitL x.pods := by
        unfold waitL
        rw [← hpe, ← prV_sort, List.map_map]; rfl
      have HWS := Lib.hid hws
      have hsl : (sortB (ltV prV) [] rs).length = rs.length := by rw [sortB_len]; simp
      have HSL := Lib.hid hsl
      clear hpe hws hsl HP
      by_cases hE : rs = []
      · subst hE
        simp only [List.length_nil] at hown
        obtain ⟨A, c, rfl⟩ := row_sliceW hown
        clear hown
        go_wp2_with fail
        refine (SortStableP_nil _ A c _).mono ?_
        rintro e w2 ⟨rfl, hw2⟩
        subst hw2
        go_wp2_with fail
        go_loopw [6, 30] (fun v i wz => i = .int .i64 0 ∧ wz.ownsRow w.heap.size 9 1 v 0 ((waitL x.pods).map Value.string) ∧ Below w.heap.size w wz) (fun _ _ _ => 0)
        case atStart => exact ⟨rfl, by rw [← HWS.out]; exact row_mono (row_newI w2 9 1 w2.heap.size rfl) hbl.size, ext_alloc hbl _⟩
        case round =>
          obtain ⟨rfl, hrow, hbz⟩ := hrel
          obtain ⟨A3, c3, G3, hv3, hO3⟩ := names_own hrow (by rw [← HWS.out]; rfl) (Nat.le_refl _) (by rw [← HWS.out]; intro y hy; cases hy)
          have HV3 := Lib.hid hv3
          have HO3 := Lib.hid hO3
          clear hv3 hO3 hrow
          go_wp2
          go_ret
          exact ⟨A3, c3, G3, congrArg _ HV3.out, HO3.out, hbz⟩
      · have hpos : 0 < rs.length := by cases rs with | nil => exact absurd rfl hE | cons a b => simp
        clear hE
        obtain ⟨g, cap, hv, hgB, hgc, hgl⟩ := row_someI hown hpos
        subst hv
        have HST := Lib.hid (row_tab hown)
        have hnn : rs.length ≤ 1048576 := by omega
        clear hown
        go_wp2_with fail
        refine (SortStableP_any wr _ g 0 cap rs.length rs prV HST.out rfl hnn prV_weak (fun a b wz _ => Wait_clo a b wz)).mono ?_
        rintro e w2 ⟨rfl, hS⟩
        have hB2 : Below w.heap.size w w2 := hbl.trans (hS.upd.below (fun y hy => by rw [List.mem_singleton.1 hy]; omega) hbl.size)
        have hgl2 : g < w2.heap.size := Nat.lt_of_lt_of_le hgl hS.upd.size
        have HTB := Lib.hid hS.tab
        clear hS HST
        have HZS := Lib.hid (show ∀ r ∈ (sortB (ltV prV) [] rs), r.name.size ≤ maxLen from fun r hr => by
          rcases mem_sortW _ _ hr with hr | hr
          · cases hr
          · exact HZ.out r hr)
        generalize (sortB (ltV prV) [] rs) = S at *
        go_wp2_with fail
        go_loopw [6, 30] (fun v i wz => ∃ k : Nat, k ≤ rs.length ∧ i = .int .i64 (k : Int) ∧ wz.ownsRow w2.heap.size 9 1 v k (((S.take k).map PRow.name).map Value.string) ∧ Below w2.heap.size w2 wz) (fun _ i _ => rs.length - (intOf i).toNat)
        case atStart => exact ⟨0, Nat.zero_le _, rfl, row_newI w2 9 1 w2.heap.size rfl, ext_alloc (ext_refl _) _⟩
        case round =>
          obtain ⟨k, hk, rfl, hrow, hbz⟩ := hrel
          by_cases hlt : k < rs.length
          · have hks : k < S.length := by rw [HSL.out]; exact hlt
            obtain ⟨r, hr⟩ : ∃ r, S[k] = r := ⟨_, rfl⟩
            have hkr : S[k]? = some r := by rw [List.getElem?_eq_getElem hks, hr]
            have q0 : wr.cell? ⟨g, k * 9, none⟩ = some (.string r.name) := by have := HTB.out k r hkr 0 _ rfl; rw [Nat.zero_add] at this; exact (hbz.cell (p := ⟨g, k * 9, none⟩) hgl2).trans this
            have q1 : wr.cell? ⟨g, k * 9 + 1, none⟩ = some (.slice r.la r.ln r.lc) := by have := HTB.out k r hkr 1 _ rfl; rw [Nat.zero_add] at this; exact (hbz.cell (p := ⟨g, k * 9 + 1, none⟩) hgl2).trans this
            have q2 : wr.cell? ⟨g, k * 9 + 2, none⟩ = some (.int .i64 r.cpu) := by have := HTB.out k r hkr 2 _ rfl; rw [Nat.zero_add] at this; exact (hbz.cell (p := ⟨g, k * 9 + 2, none⟩) hgl2).trans this
            have q3 : wr.cell? ⟨g, k * 9 + 3, none⟩ = some (.int .i64 r.mem) := by have := HTB.out k r hkr 3 _ rfl; rw [Nat.zero_add] at this; exact (hbz.cell (p := ⟨g, k * 9 + 3, none⟩) hgl2).trans this
            have q4 : wr.cell? ⟨g, k * 9 + 4, none⟩ = some (.int .i64 r.rank) := by have := HTB.out k r hkr 4 _ rfl; rw [Nat.zero_add] at this; exact (hbz.cell (p := ⟨g, k * 9 + 4, none⟩) hgl2).trans this
            have q5 : wr.cell? ⟨g, k * 9 + 5, none⟩ = some (.slice r.na r.nn r.nc) := by have := HTB.out k r hkr 5 _ rfl; rw [Nat.zero_add] at this; exact (hbz.cell (p := ⟨g, k * 9 + 5, none⟩) hgl2).trans this
            have q6 : wr.cell? ⟨g, k * 9 + 6, none⟩ = some (.slice r.ta r.tn r.tc) := by have := HTB.out k r hkr 6 _ rfl; rw [Nat.zero_add] at this; exact (hbz.cell (p := ⟨g, k * 9 + 6, none⟩) hgl2).trans this
            have q7 : wr.cell? ⟨g, k * 9 + 7, none⟩ = some (.string r.on) := by have := HTB.out k r hkr 7 _ rfl; rw [Nat.zero_add] at this; exact (hbz.cell (p := ⟨g, k * 9 + 7, none⟩) hgl2).trans this
            have q8 : wr.cell? ⟨g, k * 9 + 8, none⟩ = some (.int .i64 r.seq) := by have := HTB.out k r hkr 8 _ rfl; rw [Nat.zero_add] at this; exact (hbz.cell (p := ⟨g, k * 9 + 8, none⟩) hgl2).trans this
            have htk : (S.take (k + 1)).map PRow.name = (S.take k).map PRow.name ++ [r.name] := by rw [List.take_succ_eq_append_getElem hks, hr, List.map_append]; rfl
            have HTK := Lib.hid htk
            have hgr : g < wr.heap.size := Nat.lt_of_lt_of_le hgl2 hbz.size
            clear htk hkr hr
            go_wp2_with (
              at_builtin
              go_must (refine wpList_append1 elStringW (by rfl) _ _ (by rfl) _ _ _ _ _ (hrow.alloc _) (by rfl) [.string r.name] (by first | rfl | (simp; rfl)) (by rfl) (by simp [Value.oneCell']) (by omega) (by omega) (by have := hbz.size; (try simp); omega) ?_)
              intro v3 w3 hown3 hg3 hz3
              go_must (have hb3 : Below w2.heap.size w2 w3 := grown_ext (B := w2.heap.size) (hrow.alloc _) hg3 (ext_alloc hbz _) (by have := hbz.size; simp; omega)))
            exact ⟨⟨k + 1, by omega, by go_num, by rw [HTK.out, List.map_append]; exact hown3, hb3⟩, by simp [intOf]; omega⟩
          · have hkl : k = rs.length := by omega
            subst hkl
            have hSt : S.take rs.length = S := List.take_of_length_le (by rw [HSL.out]; exact Nat.le_refl _)
            rw [hSt, HWS.out] at hrow
            obtain ⟨A3, c3, G3, hv3, hO3⟩ := names_own hrow (by rw [← HWS.out, List.length_map, HSL.out]) hB2.size (fun y hy => by
              rw [← HWS.out] at hy
              obtain ⟨r, hr, rfl⟩ := List.mem_map.1 hy
              exact HZS.out r hr)
            have HV3 := Lib.hid hv3
            have HO3 := Lib.hid hO3
            clear hv3 hO3 hrow
            go_wp2
            go_ret
            exact ⟨A3, c3, G3, congrArg _ HV3.out, HO3.out, hB2.trans (hbz.mono hB2.size)⟩
end Go.Proofs.Ytjoclfenghenjaa
