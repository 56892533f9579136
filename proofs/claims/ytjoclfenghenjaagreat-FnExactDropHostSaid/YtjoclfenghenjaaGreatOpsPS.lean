/- DeletePod, of the reference. No condition. -/
import Derived.Test.YtjoclfenghenjaaGreatOpsP
import Derived.Test.YtjoclfenghenjaaGreatReg0
import Derived.Test.YtjoclfenghenjaaGreatClusterS
namespace Go.Proofs.YtjoclfenghenjaaGreat
open Go.ChangeShapes Go.WideShapes Go.ChangeAt Go.RowKit
set_option linter.unusedVariables false
set_option linter.unusedSimpArgs false

theorem wp_appendCK {P : Program} {t e : TypeId} {z : Value} {size bytes : Nat} (hE : ElOk P t e z size bytes) {o : Oper} {a : Act} {K : Act → World → Prop} {Q : Exit → Act → World → Prop} (s x : Operand)
    (ho : o.op = .call { callee := .builtin .append, args := #[s, x], argTypes := #[t, t] })
    (w : World) (base : Nat) (v : Value) (n : Nat) (xs : List Value) (hown : w.ownsRow base e size v n xs) (hs : a.eval s = v)
    (ad : Addr) (m c : Nat) (news : List Value) (hx : a.eval x = .slice (some ad) m c) (hl : news.length = m * size) (hnews : ∀ j u, news[j]? = some u → w.cell? (ad.add j) = some u) (h1 : ∀ u ∈ news, u.oneCell' = true)
    (hn : n + m ≤ 2097152) (hby : bytes ≤ 4096) (hbase : base ≤ w.heap.size)
    (h : ∀ v' w', w'.ownsRow base e size v' (n + m) (xs ++ news) → w.grownBy w' v.ownBlock → (v'.ownBlock = v.ownBlock ∨ v'.ownBlock = some w.heap.size) → K (a.put o.dst v') w') : o.wp P a w K Q := by
  obtain ⟨ht, hi0, hzs, hsz⟩ := hE
  obtain ⟨i, hi, hz, hsize, hb⟩ := info_parts hi0
  have hbb : (n + m) * bytes ≤ 2097152 * 4096 := Nat.mul_le_mul hn hby
  obtain ⟨v', w', hr, h2, h3, h4, h5⟩ := run_append_own_at (P := P) w base t o.type e i z size bytes ht hi hz hsize hb hzs hsz v n xs hown ad m c news hl hnews h1 (by unfold maxLen; omega) (by omega) hbase
  unfold Oper.wp execOp
  simp only [ho, resolve, invoke, builtin, Sem.run_bind, Sem.run_pure, Result.andThen_ok, List.map_toArray, List.map_cons, List.map_nil, hs, hx, hr]
  exact h v' w' h2 h3 h5
theorem Own.of_rowK {α : Type} [Dat α] {w : World} {B : Nat} {xs : List α} {ds : List Value} {F : List Nat} {e : TypeId} {v : Value} (h0 : w.ownsRow B e (Dat.size α) v xs.length ds) (h : OwnCells w B xs ds F) (hne : ∀ g, v.ownBlock = some g → g ∉ F) : ∃ A c G, v = .slice A xs.length c ∧ Own w B xs [.slice A xs.length c] G ∧ ∀ y ∈ G, y ∈ F ∨ v.ownBlock = some y := by
  rcases h0 with ⟨hl, ⟨rfl, hn⟩ | ⟨g, cap, cur, rfl, hb, hh, hle, hm, hcs, ht⟩⟩
  · obtain rfl : xs = [] := List.eq_nil_of_length_eq_zero hn
    exact ⟨none, 0, [], rfl, ⟨Sl.nil w none 0 (Nat.zero_le _), List.nodup_nil, (fun b hb => by cases hb), (fun b hb => by cases hb)⟩, (fun b hb => by cases hb)⟩
  · have hg : g < w.heap.size := by
      rcases Nat.lt_or_ge g w.heap.size with hlt | hge
      · exact hlt
      · rw [Array.getElem?_eq_none hge] at hh; cases hh
    refine ⟨_, cap, g :: F, rfl, ⟨⟨_, cap, F, ds, rfl, hle, hm, h.rd, .inr ⟨g, 0, rfl, rfl, hg, fun j u hu => ?_⟩⟩, ?_, ?_, ?_⟩, fun y hy => ?_⟩
    · rw [Nat.zero_add, cell_of_row w g j cur e (0, 0) hh]
      have hj := (List.getElem?_eq_some_iff.1 hu).1
      rw [← ht, List.getElem?_take] at hu
      split at hu
      · simpa using hu
      · cases hu
    · rw [List.nodup_cons]
      exact ⟨hne g rfl, h.nodup⟩
    · intro b hb'
      rcases List.mem_cons.1 hb' with rfl | hb'
      · exact hb
      · exact h.base b hb'
    · intro b hb'
      rcases List.mem_cons.1 hb' with rfl | hb'
      · exact ⟨cur, e, hh⟩
      · exact h.plain b hb'
    · rcases List.mem_cons.1 hy with rfl | hy
      · exact .inr rfl
      · exact .inl hy
theorem ownNeK {α : Type} [Dat α] {w : World} {B c i : Nat} {u : Value} {x : α} {cs : List Value} {F : List Nat} (h : Own w B x cs F) (hF : ∀ y ∈ F, y ≠ c) : Own (w.setCell ⟨c, i, none⟩ u) B x cs F :=
  h.keep (fun y hy => Below.heap_setCell _ _ _ _ (by have := hF y hy; dsimp only; omega)) (by simp [World.setCell])
/-- a list without one element: its cells, out of the whole list's -/
theorem Own.delCells {α : Type} [Dat α] {w : World} {B c : Nat} {xs : List α} {A : Option Addr} {F : List Nat} (h : Own w B xs [.slice A xs.length c] F) {i : Nat} (hi : i < xs.length) :
    ∃ b o ds G, A = some ⟨b, o, none⟩ ∧ b ∈ F ∧ b < w.heap.size ∧ xs.length ≤ c ∧ c ≤ maxLen ∧ ds.length = xs.length * Dat.size α ∧ (∀ u ∈ ds, u.oneCell' = true) ∧ Cells w b o ds ∧
      OwnCells w B (xs.eraseIdx i) (ds.take (i * Dat.size α) ++ ds.drop ((i + 1) * Dat.size α)) G ∧ (∀ y ∈ G, y ∈ F) := by
  obtain ⟨⟨A', c', G, ds, e, hc1, hc2, hc, h0⟩, hnd, hbase, hplain⟩ := h
  simp only [List.cons.injEq, Value.slice.injEq, and_true, true_and] at e
  obtain ⟨rfl, rfl⟩ := e
  rcases h0 with h0 | ⟨b, o, rfl, rfl, hb, hcell⟩
  · rw [h0.1] at hi; cases hi
  have hone := hc.one
  have hlen := hc.len
  obtain ⟨d1, ck, d2, G1, Fk, G2, rfl, rfl, r1, r2, r3, hd1⟩ := hc.split hi
  have hckl := Dat.len r2
  have e1 : (d1 ++ (ck ++ d2)).take (i * Dat.size α) = d1 := by rw [← hd1, List.take_left]
  have e2 : (d1 ++ (ck ++ d2)).drop ((i + 1) * Dat.size α) = d2 := by
    rw [← List.append_assoc, show (i + 1) * Dat.size α = (d1 ++ ck).length by rw [List.length_append, hd1, hckl, Nat.succ_mul], List.drop_left]
  simp only [List.nodup_cons, List.nodup_append, List.mem_append, not_or] at hnd
  have hx : (xs.eraseIdx i) = xs.take i ++ xs.drop (i + 1) := List.eraseIdx_eq_take_drop_succ ..
  have hsub : ∀ y ∈ G1 ++ G2, y ∈ b :: (G1 ++ (Fk ++ G2)) := fun y hy => by
    rcases List.mem_append.1 hy with hy | hy <;> simp [hy]
  refine ⟨b, o, _, G1 ++ G2, rfl, List.mem_cons_self .., hb, hc1, hc2, hlen, hone, hcell, ⟨?_, ?_, fun y hy => hbase y (hsub y hy), fun y hy => hplain y (hsub y hy)⟩, hsub⟩
  · rw [hx, e1, e2]
    exact r1.append r3
  · rw [List.nodup_append]
    exact ⟨hnd.2.1, hnd.2.2.1.2.1, fun x hx y hy => hnd.2.2.2 x hx y (Or.inr hy)⟩
set_option maxRecDepth 100000 in
set_option maxHeartbeats 4000000 in
theorem DeletePod_spec (x : Cluster) (cs : List Value) (F : List Nat) (nm : ByteArray) (w : World) (h : rd w x cs F) (hw : (x.wt : Int) ≤ 1048576) :
    Calls Tryz.prog 18 #[.agg cs.toArray, .string nm] w fun e w' => ∃ ds G, e = .returned (.tuple #[.agg ds.toArray, .int .i64 (delP x nm).2]) ∧ Own w' w.heap.size (delP x nm).1 ds G ∧ Below w.heap.size w w' := by
  have hpl : (x.pods.length : Int) ≤ 1048576 := by have h1 := wtL_len Placed.wt x.pods; have h2 : x.wt = wtL Host.wt x.hosts + wtL Placed.wt x.pods := rfl; omega
  have HW := Lib.hid hw
  have HPL := Lib.hid hpl
  clear hw
  have hr := h
  obtain ⟨Ahosts, chosts, Fhosts, Apods, cpods, Fpods, hck, hF0, hhosts, hpods, hnext, hweightspack, hweightsspread, hweightssoft⟩ := rd_Cluster hr
  subst hck
  clear hF0 hr
  have hil := idxI_lt (p := podatP nm) x.pods
  cases hc : clusterR x
  · have HF := Lib.hid (show delP x nm = (x, 1) by unfold delP; rw [hc]; simp)
    have HC := Lib.hid hc
    clear hc
    obtain ⟨r, hr0⟩ : ∃ r, idxI (podatP nm) x.pods = r := ⟨_, rfl⟩
    have HI := Lib.hid hr0
    clear hr0
    go_enter Tryz.func18, Tryz.ntmps18
    go_wp2_with fail
    refine (l22Copy_any x _ _ _ (rd_ext h (by repeat (first | with_reducible exact ext_refl _ | with_reducible assumption | with_reducible refine ext_alloc ?_ _ | with_reducible refine ext_drew ?_ | with_reducible refine ext_trans ?_ (by assumption)))) HW.out).mono ?_
    rintro e w1 ⟨cs1, G1, rfl, hO1, hb1⟩
    have hR1 := hO1.rd
    obtain ⟨Ahosts1, chosts1, Fhosts1, Apods1, cpods1, Fpods1, hck, hG1, hhosts1, hpods1, hnext1, hweightspack1, hweightsspread1, hweightssoft1⟩ := rd_Cluster hR1
    subst hck
    clear hG1 hR1
    obtain ⟨hc1, hf1⟩ := bcell hb1
    have hz1a : w.heap.size < w1.heap.size := by have := hb1.size; (try simp at this); omega
    have hz1b : w.heap.size + 1 < w1.heap.size := by have := hb1.size; (try simp at this); omega
    have hlt1 := hO1.lt
    go_wp2_with fail
    refine (ClusterOk_spec x _ _ _ (rd_ext h (by repeat (first | with_reducible exact ext_refl _ | with_reducible assumption | with_reducible refine ext_alloc ?_ _ | with_reducible refine ext_drew ?_ | with_reducible refine ext_trans ?_ (by assumption)))) HW.out).mono ?_
    rw [HC.out]
    rintro e w2 ⟨rfl, hb2⟩
    obtain ⟨hc2, hf2⟩ := bcell hb2
    have hz2a : w.heap.size < w2.heap.size := by have := hb2.size; (try simp at this); omega
    have hz2b : w.heap.size + 1 < w2.heap.size := by have := hb2.size; (try simp at this); omega
    have hz2d : w1.heap.size < w2.heap.size := by have := hb2.size; (try simp at this); omega
    have hO2 : Own w2 (w.heap.size + 1 + 1) x [.slice Ahosts1 x.hosts.length chosts1, .slice Apods1 x.pods.length cpods1, .int .i64 x.next, .int .i64 x.weights.pack, .int .i64 x.weights.spread, .int .i64 x.weights.soft] G1 := ((hO1.mono (by simp)).alloc _).ext hb2
    have HO2 := Lib.hid hO2
    clear hO1 hO2 h
    go_wp2_with fail
    try dsimp only
    iterate 60 (first | go_step | skip)
    refine bodyPost_ret (v := .tuple #[.agg #[.slice Ahosts1 x.hosts.length chosts1, .slice Apods1 x.pods.length cpods1, .int .i64 x.next, .int .i64 x.weights.pack, .int .i64 x.weights.spread, .int .i64 x.weights.soft], .int .i64 1]) (by simp [results, Tryz.results18, go_sem, *]) rfl ?_
    rw [HF.out]
    first
      | refine ⟨[.slice Ahosts1 x.hosts.length chosts1, .slice Apods1 x.pods.length cpods1, .int .i64 x.next, .int .i64 x.weights.pack, .int .i64 x.weights.spread, .int .i64 x.weights.soft], G1, rfl, ?_, ?_⟩
      | refine ⟨[.slice Ahosts1 x.hosts.length chosts1, .slice Apods1 x.pods.length cpods1, .int .i64 x.next, .int .i64 x.weights.pack, .int .i64 x.weights.spread, .int .i64 x.weights.soft], rfl, ⟨G1, ?_⟩, ?_⟩
    · try dsimp only
      refine Own.mono (B := w.heap.size + 1 + 1) ?_ (by omega)
      repeat (first | with_reducible exact HO2.out | with_reducible refine Own.setCell ?_ (by dsimp only; omega) _)
    · repeat (first | with_reducible exact ext_refl _ | with_reducible assumption | with_reducible refine ext_setCell ?_ (by dsimp only; omega) _ | with_reducible refine ext_alloc ?_ _ | with_reducible refine ext_drew ?_ | with_reducible refine ext_trans ?_ (by assumption))
  · by_cases hng : idxI (podatP nm) x.pods < 0
    · have HF := Lib.hid (show delP x nm = (x, 3) by unfold delP; rw [hc, if_pos rfl, if_pos hng])
      have HC := Lib.hid hc
      clear hc
      obtain ⟨r, hr0⟩ : ∃ r, idxI (podatP nm) x.pods = r := ⟨_, rfl⟩
      have HI := Lib.hid hr0
      rw [hr0] at hng
      clear hr0
      go_enter Tryz.func18, Tryz.ntmps18
      go_wp2_with fail
      refine (l22Copy_any x _ _ _ (rd_ext h (by repeat (first | with_reducible exact ext_refl _ | with_reducible assumption | with_reducible refine ext_alloc ?_ _ | with_reducible refine ext_drew ?_ | with_reducible refine ext_trans ?_ (by assumption)))) HW.out).mono ?_
      rintro e w1 ⟨cs1, G1, rfl, hO1, hb1⟩
      have hR1 := hO1.rd
      obtain ⟨Ahosts1, chosts1, Fhosts1, Apods1, cpods1, Fpods1, hck, hG1, hhosts1, hpods1, hnext1, hweightspack1, hweightsspread1, hweightssoft1⟩ := rd_Cluster hR1
      subst hck
      clear hG1 hR1
      obtain ⟨hc1, hf1⟩ := bcell hb1
      have hz1a : w.heap.size < w1.heap.size := by have := hb1.size; (try simp at this); omega
      have hz1b : w.heap.size + 1 < w1.heap.size := by have := hb1.size; (try simp at this); omega
      have hlt1 := hO1.lt
      go_wp2_with fail
      refine (ClusterOk_spec x _ _ _ (rd_ext h (by repeat (first | with_reducible exact ext_refl _ | with_reducible assumption | with_reducible refine ext_alloc ?_ _ | with_reducible refine ext_drew ?_ | with_reducible refine ext_trans ?_ (by assumption)))) HW.out).mono ?_
      rw [HC.out]
      rintro e w2 ⟨rfl, hb2⟩
      obtain ⟨hc2, hf2⟩ := bcell hb2
      have hz2a : w.heap.size < w2.heap.size := by have := hb2.size; (try simp at this); omega
      have hz2b : w.heap.size + 1 < w2.heap.size := by have := hb2.size; (try simp at this); omega
      have hz2d : w1.heap.size < w2.heap.size := by have := hb2.size; (try simp at this); omega
      go_wp2_with fail
      refine (PodAt_spec x _ _ nm _ (rd_ext h (by repeat (first | with_reducible exact ext_refl _ | with_reducible assumption | with_reducible refine ext_alloc ?_ _ | with_reducible refine ext_drew ?_ | with_reducible refine ext_trans ?_ (by assumption)))) HPL.out).mono ?_
      rw [HI.out]
      rintro e w3 ⟨rfl, hb3⟩
      obtain ⟨hc3, hf3⟩ := bcell hb3
      have hz3a : w.heap.size < w3.heap.size := by have := hb3.size; (try simp at this); omega
      have hz3b : w.heap.size + 1 < w3.heap.size := by have := hb3.size; (try simp at this); omega
      have hz3d : w1.heap.size < w3.heap.size := by have := hb3.size; (try simp at this); omega
      have hO2 : Own w3 (w.heap.size + 1 + 1) x [.slice Ahosts1 x.hosts.length chosts1, .slice Apods1 x.pods.length cpods1, .int .i64 x.next, .int .i64 x.weights.pack, .int .i64 x.weights.spread, .int .i64 x.weights.soft] G1 := (((hO1.mono (by simp)).alloc _).ext hb2).ext hb3
      have HO2 := Lib.hid hO2
      clear hO1 hO2 h
      go_wp2_with fail
      try dsimp only
      iterate 60 (first | go_step | skip)
      refine bodyPost_ret (v := .tuple #[.agg #[.slice Ahosts1 x.hosts.length chosts1, .slice Apods1 x.pods.length cpods1, .int .i64 x.next, .int .i64 x.weights.pack, .int .i64 x.weights.spread, .int .i64 x.weights.soft], .int .i64 3]) (by simp [results, Tryz.results18, go_sem, *]) rfl ?_
      rw [HF.out]
      first
        | refine ⟨[.slice Ahosts1 x.hosts.length chosts1, .slice Apods1 x.pods.length cpods1, .int .i64 x.next, .int .i64 x.weights.pack, .int .i64 x.weights.spread, .int .i64 x.weights.soft], G1, rfl, ?_, ?_⟩
        | refine ⟨[.slice Ahosts1 x.hosts.length chosts1, .slice Apods1 x.pods.length cpods1, .int .i64 x.next, .int .i64 x.weights.pack, .int .i64 x.weights.spread, .int .i64 x.weights.soft], rfl, ⟨G1, ?_⟩, ?_⟩
      · try dsimp only
        refine Own.mono (B := w.heap.size + 1 + 1) ?_ (by omega)
        repeat (first | with_reducible exact HO2.out | with_reducible refine Own.setCell ?_ (by dsimp only; omega) _)
      · repeat (first | with_reducible exact ext_refl _ | with_reducible assumption | with_reducible refine ext_setCell ?_ (by dsimp only; omega) _ | with_reducible refine ext_alloc ?_ _ | with_reducible refine ext_drew ?_ | with_reducible refine ext_trans ?_ (by assumption))
    · obtain ⟨k, hk0⟩ : ∃ k : Nat, idxI (podatP nm) x.pods = k := ⟨(idxI (podatP nm) x.pods).toNat, by omega⟩
      have hk : k < x.pods.length := by omega
      have HF := Lib.hid (show delP x nm = (⟨x.hosts, x.pods.eraseIdx k, x.next, x.weights⟩, 0) by unfold delP; rw [hc, if_pos rfl, if_neg (by omega), hk0, Int.toNat_natCast])
      have HC := Lib.hid hc
      clear hc
      have HI := Lib.hid hk0
      clear hk0 hng
      go_enter Tryz.func18, Tryz.ntmps18
      go_wp2_with fail
      refine (l22Copy_any x _ _ _ (rd_ext h (by repeat (first | with_reducible exact ext_refl _ | with_reducible assumption | with_reducible refine ext_alloc ?_ _ | with_reducible refine ext_drew ?_ | with_reducible refine ext_trans ?_ (by assumption)))) HW.out).mono ?_
      rintro e w1 ⟨cs1, G1, rfl, hO1, hb1⟩
      have hR1 := hO1.rd
      obtain ⟨Ahosts1, chosts1, Fhosts1, Apods1, cpods1, Fpods1, hck, hG1, hhosts1, hpods1, hnext1, hweightspack1, hweightsspread1, hweightssoft1⟩ := rd_Cluster hR1
      subst hck
      clear hG1 hR1
      obtain ⟨hc1, hf1⟩ := bcell hb1
      have hz1a : w.heap.size < w1.heap.size := by have := hb1.size; (try simp at this); omega
      have hz1b : w.heap.size + 1 < w1.heap.size := by have := hb1.size; (try simp at this); omega
      have hlt1 := hO1.lt
      go_wp2_with fail
      refine (ClusterOk_spec x _ _ _ (rd_ext h (by repeat (first | with_reducible exact ext_refl _ | with_reducible assumption | with_reducible refine ext_alloc ?_ _ | with_reducible refine ext_drew ?_ | with_reducible refine ext_trans ?_ (by assumption)))) HW.out).mono ?_
      rw [HC.out]
      rintro e w2 ⟨rfl, hb2⟩
      obtain ⟨hc2, hf2⟩ := bcell hb2
      have hz2a : w.heap.size < w2.heap.size := by have := hb2.size; (try simp at this); omega
      have hz2b : w.heap.size + 1 < w2.heap.size := by have := hb2.size; (try simp at this); omega
      have hz2d : w1.heap.size < w2.heap.size := by have := hb2.size; (try simp at this); omega
      go_wp2_with fail
      refine (PodAt_spec x _ _ nm _ (rd_ext h (by repeat (first | with_reducible exact ext_refl _ | with_reducible assumption | with_reducible refine ext_alloc ?_ _ | with_reducible refine ext_drew ?_ | with_reducible refine ext_trans ?_ (by assumption)))) HPL.out).mono ?_
      rw [HI.out]
      rintro e w3 ⟨rfl, hb3⟩
      obtain ⟨hc3, hf3⟩ := bcell hb3
      have hz3a : w.heap.size < w3.heap.size := by have := hb3.size; (try simp at this); omega
      have hz3b : w.heap.size + 1 < w3.heap.size := by have := hb3.size; (try simp at this); omega
      have hz3d : w1.heap.size < w3.heap.size := by have := hb3.size; (try simp at this); omega
      have hO2 : Own w3 (w.heap.size + 1 + 1) x [.slice Ahosts1 x.hosts.length chosts1, .slice Apods1 x.pods.length cpods1, .int .i64 x.next, .int .i64 x.weights.pack, .int .i64 x.weights.spread, .int .i64 x.weights.soft] G1 := (((hO1.mono (by simp)).alloc _).ext hb2).ext hb3
      obtain ⟨Gh, Gp, hOh, hOp, hdis, hsh, hsp⟩ := hO2.parts
      obtain ⟨b, o, ds, G3, rfl, hbF, hbs, hcap, hmx, hdl, hone, hcell, hOC, hG3⟩ := hOp.delCells hk
      have hS : Dat.size Placed = 9 := rfl
      rw [hS] at hdl hOC
      clear hS
      have hg : ∀ y ∈ Gp, w.heap.size + 1 < y ∧ y < w1.heap.size := fun y hy => ⟨by have := hOp.base y hy; omega, hlt1 y (hsp y hy)⟩
      have hbl := hg b hbF
      have KB : Blk w3 w1.heap.size [.slice Ahosts1 x.hosts.length chosts1, .slice (some ⟨b, o, none⟩) x.pods.length cpods1, .int .i64 x.next, .int .i64 x.weights.pack, .int .i64 x.weights.spread, .int .i64 x.weights.soft] := (((Blk.new w1 [.slice Ahosts1 x.hosts.length chosts1, .slice (some ⟨b, o, none⟩) x.pods.length cpods1, .int .i64 x.next, .int .i64 x.weights.pack, .int .i64 x.weights.spread, .int .i64 x.weights.soft] 33).ext hb2).ext hb3)
      have KR0 : Blk ((w.alloc (.cells ([.slice Ahosts x.hosts.length chosts, .slice Apods x.pods.length cpods, .int .i64 x.next, .int .i64 x.weights.pack, .int .i64 x.weights.spread, .int .i64 x.weights.soft] : List Value).toArray 33)).alloc (.cells ([.slice none 0 0, .slice none 0 0, .int .i64 0, .int .i64 0, .int .i64 0, .int .i64 0] : List Value).toArray 33)) (w.heap.size + 1) [.slice none 0 0, .slice none 0 0, .int .i64 0, .int .i64 0, .int .i64 0, .int .i64 0] := by have := Blk.new (w.alloc (.cells ([.slice Ahosts x.hosts.length chosts, .slice Apods x.pods.length cpods, .int .i64 x.next, .int .i64 x.weights.pack, .int .i64 x.weights.spread, .int .i64 x.weights.soft] : List Value).toArray 33)) [.slice none 0 0, .slice none 0 0, .int .i64 0, .int .i64 0, .int .i64 0, .int .i64 0] 33; rw [World.size_alloc] at this; exact this
      have KR : Blk w3 (w.heap.size + 1) [.slice none 0 0, .slice none 0 0, .int .i64 0, .int .i64 0, .int .i64 0, .int .i64 0] := ((((KR0.ext hb1).ext (ext_alloc (ext_refl _) _)).ext hb2).ext hb3)
      have hB3 : Below w.heap.size w w3 := (by repeat (first | with_reducible exact ext_refl _ | with_reducible assumption | with_reducible refine ext_alloc ?_ _ | with_reducible refine ext_drew ?_ | with_reducible refine ext_trans ?_ (by assumption)))
      have HFG := Lib.hid (show ∀ y ∈ Gh ++ G3, y < w1.heap.size from fun y hy => by rcases List.mem_append.1 hy with hy | hy; exact hlt1 y (hsh y hy); exact hlt1 y (hsp y (hG3 y hy)))
      have HDIS := Lib.hid (show ∀ y ∈ Gh, y ∉ G3 from fun y hy hy' => hdis y hy (hG3 y hy'))
      have hl1 : (ds.take (k * 9)).length = k * 9 := by rw [List.length_take, hdl]; omega
      have hl2 : (ds.drop ((k + 1) * 9)).length = (x.pods.length - (k + 1)) * 9 := by rw [List.length_drop, hdl]; omega
      have hk1 : (k : Int) + 1 ≤ x.pods.length := by omega
      have hkc : k ≤ cpods1 := by omega
      have hkc1 : k + 1 ≤ cpods1 := by omega
      obtain ⟨A0, hA0, hsrc⟩ : ∃ A0 : Addr, (if cpods1 = k + 1 then some (⟨b, o, none⟩ : Addr) else some ⟨b, o + (k + 1) * 9, none⟩) = some A0 ∧ Hid (A0.block = b ∧ ∀ q u, (ds.drop ((k + 1) * 9))[q]? = some u → w3.cell? (A0.add q) = some u) := by
        by_cases hc : cpods1 = k + 1
        · refine ⟨⟨b, o, none⟩, by simp [hc], rfl, fun q u hu => ?_⟩
          have h0 : (ds.drop ((k + 1) * 9)).length = 0 := by rw [hl2]; omega
          rw [List.length_eq_zero_iff.1 h0] at hu
          simp at hu
        · refine ⟨⟨b, o + (k + 1) * 9, none⟩, by simp [hc], rfl, fun q u hu => ?_⟩
          rw [List.getElem?_drop] at hu
          rw [Addr.add_lit, show o + (k + 1) * 9 + q = o + ((k + 1) * 9 + q) by omega]
          exact hcell _ u hu
      have hw1 : IntKind.i64.wrap ((k : Int) + 1) = (k : Int) + 1 := IntWalk.i64_in _ (by omega)
      have hw2 : ((k : Int) + 1).toNat = k + 1 := by omega
      have x0 : (fun w' => w'.cell? ⟨w1.heap.size, 1, none⟩ = some (.slice (some ⟨b, o, none⟩) x.pods.length cpods1)) w3.drew := (KB.ext (ext_drew (ext_refl _))).cell (i := 1) (u := .slice (some ⟨b, o, none⟩) x.pods.length cpods1) rfl
      have HCELL := Lib.hid hcell
      have HOC := Lib.hid hOC
      have HONE := Lib.hid hone
      have HOH := Lib.hid hOh
      clear hcell hOC hone hOh hdl hO1 hO2 hOp hdis hsh hsp hG3
      go_wp2_with fail
      refine wp_region_cut (fun w' => w'.cell? ⟨w1.heap.size, 1, none⟩ = some (.slice (some ⟨b, o, none⟩) x.pods.length cpods1)) [1, 2, 3, 4, 6, 7, 8, 9, 10] [0, 5, 11] [12, 13] (by kernel_rfl) (by kernel_rfl) (fun _ _ d _ _ h => by cases d <;> exact h) x0 ?_
      clear x0
      simp only [pick, List.getElem?_cons_succ, List.getElem?_cons_zero]
      iterate 9
        (apply headC_step
         case hy =>
           refine Or.inl ⟨rfl, fun wq hq => ?_⟩
           go_simp
           try rfl
         simp only [Act.put, List.setIfInBounds_toArray, List.set_cons_zero, List.set_cons_succ])
      refine headC_nil ?_
      have hbd : Below w3.heap.size w3 (w3.alloc (.cells #[] 78)).drew := ext_drew (ext_alloc (ext_refl _) _)
      have KBd := KB.ext hbd
      have KRd := KR.ext hbd
      have hownd : (w3.alloc (.cells #[] 78)).drew.ownsRow w3.heap.size 78 9 (.slice (some ⟨w3.heap.size, 0, none⟩) 0 0) 0 [] := row_new w3 78 9 w3.heap.size rfl
      refine wpListK_step rfl (fun K hK => ?_)
      go_simp
      refine hK _ _ (KBd.cell (i := 1) (u := .slice (some ⟨b, o, none⟩) x.pods.length cpods1) rfl) ?_
      try simp only [Act.put, List.setIfInBounds_toArray, List.set_cons_zero, List.set_cons_succ]
      clear hK K
      have hsz : (w3.alloc (.cells #[] 78)).drew.heap.size = w3.heap.size + 1 := by simp
      generalize (w3.alloc (.cells #[] 78)).drew = wd at *
      refine wpListK_step rfl (fun K hK => ?_)
      refine wp_appendCK elCPlaced _ _ (by rfl) wd w3.heap.size _ 0 [] hownd (by rfl) ⟨b, o, none⟩ k cpods1 (ds.take (k * 9)) (by rfl) hl1 (fun q u hu => by
          rw [List.getElem?_take] at hu
          split at hu
          · rw [Addr.add_lit]; exact (hbd.cell (p := ⟨b, o + q, none⟩) (by dsimp only; omega)).trans (HCELL.out q u hu)
          · cases hu) (fun u hu => HONE.out u (List.mem_of_mem_take hu)) (by omega) (by omega) (by omega) ?_
      intro v5 w5 hown5 hg5 hat5
      have hr5 : ∀ q, (Value.slice (some ⟨w3.heap.size, 0, none⟩) 0 0).ownBlock = some q → q = w3.heap.size := fun q hq => by simp [Value.ownBlock] at hq; omega
      have KB5 := KBd.grown hg5 (fun q hq => by have := hr5 q hq; omega)
      have KR5 := KRd.grown hg5 (fun q hq => by have := hr5 q hq; omega)
      have hfar5 : ∀ y, y < w3.heap.size → w5.heap[y]? = w3.heap[y]? := fun y hy => (hg5.block y (by omega) (fun e => by have := hr5 y e.symm; omega)).trans (hbd.block y hy)
      have hv5 : ∀ q, v5.ownBlock = some q → w3.heap.size ≤ q := fun q hq => (hown5.lt q hq).1
      refine hK _ _ (KB5.cell (i := 1) (u := .slice (some ⟨b, o, none⟩) x.pods.length cpods1) rfl) ?_
      try simp only [Act.put, List.setIfInBounds_toArray, List.set_cons_zero, List.set_cons_succ]
      clear hK K
      refine wpListK_step rfl (fun K hK => ?_)
      refine wp_appendCK elCPlaced _ _ (by rfl) w5 w3.heap.size v5 _ _ hown5 (by rfl) A0 (x.pods.length - (k + 1)) (cpods1 - (k + 1)) (ds.drop ((k + 1) * 9)) (by rfl) hl2 (fun q u hu => by
          refine (World.cell?_of_block ?_).trans (hsrc.out.2 q u hu)
          refine hfar5 _ ?_
          rw [show (A0.add q).block = A0.block from by unfold Addr.add; split <;> rfl, hsrc.out.1]
          omega) (fun u hu => HONE.out u (List.mem_of_mem_drop hu)) (by omega) (by omega) (by have := hg5.size; omega) ?_
      intro v7 w7 hown7 hg7 hat7
      have hz7 := hg7.size
      have hz5 := hg5.size
      have KB7 := KB5.grown hg7 (fun q hq => by have := hv5 q hq; omega)
      have KR7 := KR5.grown hg7 (fun q hq => by have := hv5 q hq; omega)
      have hfar7 : ∀ y, y < w3.heap.size → w7.heap[y]? = w3.heap[y]? := fun y hy => (hg7.block y (by omega) (fun e => by have := hv5 y e.symm; omega)).trans (hfar5 y hy)
      rw [show 0 + k + (x.pods.length - (k + 1)) = x.pods.length - 1 by omega, List.nil_append] at hown7
      obtain ⟨A7, c7, hv7⟩ := row_sliceK hown7
      subst hv7
      refine hK _ _ (KB7.cell (i := 1) (u := .slice (some ⟨b, o, none⟩) x.pods.length cpods1) rfl) ?_
      try simp only [Act.put, List.setIfInBounds_toArray, List.set_cons_zero, List.set_cons_succ]
      clear hK K
      have hle : (x.pods.eraseIdx k).length = x.pods.length - 1 := by rw [List.length_eraseIdx, if_pos hk]
      have hoc7 : OwnCells w7 (w.heap.size + 1 + 1) (x.pods.eraseIdx k) (ds.take (k * 9) ++ ds.drop ((k + 1) * 9)) G3 := HOC.out.keep (fun y hy => hfar7 y (by have := HFG.out y (by simp [hy]); omega)) (by omega)
      obtain ⟨A8, c8, G8, hv8, hO8, hG8⟩ := Own.of_rowK (xs := x.pods.eraseIdx k) (by rw [hle]; exact row_mono hown7 (by omega)) hoc7 (fun g hg' hm => by have := (hown7.lt g hg').1; have := HFG.out g (by simp [hm]); omega)
      rw [hle] at hv8 hO8
      simp only [Value.slice.injEq, true_and] at hv8
      obtain ⟨rfl, rfl⟩ := hv8
      have hoh7 : Own w7 (w.heap.size + 1 + 1) x.hosts [.slice Ahosts1 x.hosts.length chosts1] Gh := HOH.out.keep (fun y hy => hfar7 y (by have := HFG.out y (by simp [hy]); omega)) (by omega)
      have HOW := Lib.hid (Own.whole hoh7 hO8 (fun y hy hy' => by
        rcases hG8 y hy' with h9 | h9
        · exact HDIS.out y hy h9
        · have := (hown7.lt y h9).1; have := HFG.out y (by simp [hy]); omega) hnext1 hweightspack1 hweightsspread1 hweightssoft1)
      have HGN := Lib.hid (show ∀ y ∈ Gh ++ G8, y ≠ w1.heap.size from fun y hy e => by
        rcases List.mem_append.1 hy with hy | hy
        · have := HFG.out y (by simp [hy]); omega
        · rcases hG8 y hy with h9 | h9
          · have := HFG.out y (by simp [h9]); omega
          · have := (hown7.lt y h9).1; omega)
      have hB7 : Below w.heap.size w w7 := hB3.trans ⟨hg7.os.trans (hg5.os.trans hbd.os), hg7.tape.trans (hg5.tape.trans hbd.tape), hg7.output.trans (hg5.output.trans hbd.output), by omega, fun y hy => hfar7 y (by omega)⟩
      have m0 := KB7.cell (i := 0) (u := .slice Ahosts1 x.hosts.length chosts1) rfl
      have m1 := KB7.cell (i := 1) (u := .slice (some ⟨b, o, none⟩) x.pods.length cpods1) rfl
      have m2 := KB7.cell (i := 2) (u := .int .i64 x.next) rfl
      have m3 := KB7.cell (i := 3) (u := .int .i64 x.weights.pack) rfl
      have m4 := KB7.cell (i := 4) (u := .int .i64 x.weights.spread) rfl
      have m5 := KB7.cell (i := 5) (u := .int .i64 x.weights.soft) rfl
      have mf := KB7.fz
      have ml := KB7.lt
      have r0 := KR7.cell (i := 0) (u := .slice none 0 0) rfl
      have r1 := KR7.cell (i := 1) (u := .slice none 0 0) rfl
      have r2 := KR7.cell (i := 2) (u := .int .i64 0) rfl
      have r3 := KR7.cell (i := 3) (u := .int .i64 0) rfl
      have r4 := KR7.cell (i := 4) (u := .int .i64 0) rfl
      have r5 := KR7.cell (i := 5) (u := .int .i64 0) rfl
      have rf := KR7.fz
      have rl := KR7.lt
      clear hc1 hc2 hc3 hf1 hf2 hf3 KB KR KR0 KBd KRd KB5 KR5 KB7 KR7 hownd hown5 hown7 hg5 hg7 hat5 hat7 hfar5 hfar7 hr5 hv5 hoc7 hO8 hoh7 hG8 hb1 hb2 hb3 hbd hg h hw1 hw2 hA0
      refine wpListK_nil ?_
      go_wp2_with fail
      try dsimp only
      iterate 60 (first | go_step | skip)
      refine bodyPost_ret (v := .tuple #[.agg #[.slice Ahosts1 x.hosts.length chosts1, .slice A7 (x.pods.length - 1) c7, .int .i64 x.next, .int .i64 x.weights.pack, .int .i64 x.weights.spread, .int .i64 x.weights.soft], .int .i64 0]) (by simp [results, Tryz.results18, go_sem, *]) rfl ?_
      rw [HF.out]
      first
        | refine ⟨[.slice Ahosts1 x.hosts.length chosts1, .slice A7 (x.pods.length - 1) c7, .int .i64 x.next, .int .i64 x.weights.pack, .int .i64 x.weights.spread, .int .i64 x.weights.soft], Gh ++ G8, rfl, ?_, ?_⟩
        | refine ⟨[.slice Ahosts1 x.hosts.length chosts1, .slice A7 (x.pods.length - 1) c7, .int .i64 x.next, .int .i64 x.weights.pack, .int .i64 x.weights.spread, .int .i64 x.weights.soft], rfl, ⟨Gh ++ G8, ?_⟩, ?_⟩
      · try dsimp only
        refine Own.mono (B := w.heap.size + 1 + 1) ?_ (by omega)
        repeat (first | with_reducible exact HOW.out | with_reducible refine Own.setCell ?_ (by dsimp only; omega) _ | with_reducible refine ownNeK ?_ HGN.out)
      · repeat (first | with_reducible exact ext_refl _ | with_reducible assumption | with_reducible refine ext_setCell ?_ (by dsimp only; omega) _ | with_reducible refine ext_alloc ?_ _ | with_reducible refine ext_drew ?_ | with_reducible refine ext_trans ?_ (by assumption))

end Go.Proofs.YtjoclfenghenjaaGreat
