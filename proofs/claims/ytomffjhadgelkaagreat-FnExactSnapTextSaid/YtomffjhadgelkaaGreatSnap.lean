/- SnapText, of the program and of the reference. No condition. -/
import Derived.Test.YtomffjhadgelkaaGreatPlaceB
import Derived.Test.YtomffjhadgelkaaGreatBlk
import Derived.Test.YtomffjhadgelkaaGreatPodBytes
import Derived.Test.YtomffjhadgelkaaGreatClusterI
import Derived.Test.YtomffjhadgelkaaGreatClusterS
namespace Go.Proofs.YtomffjhadgelkaaGreat
open Go.ChangeShapes Go.WideShapes Go.ChangeAt Go.RowKit
set_option linter.unusedVariables false
set_option linter.unusedSimpArgs false
set_option maxRecDepth 100000 in
set_option maxHeartbeats 4000000 in
theorem SnapText_impl (x : Cluster) (cs : List Value) (F : List Nat) (w : World) (h : rd w x cs F) (hw : (x.wt : Int) ≤ 1048576) :
    Calls Tryz.prog 19 #[.agg cs.toArray] w fun e w' => e = .returned (.string (snapText x)) ∧ Below w.heap.size w w' := by
  have hwx : x.wt = wtL Host.wt x.hosts + wtL Placed.wt x.pods := rfl
  have hlen : (x.hosts.length : Int) ≤ 1048576 := by have := wtL_len Host.wt x.hosts; omega
  have hplen : (x.pods.length : Int) ≤ 1048576 := by have := wtL_len Placed.wt x.pods; omega
  have HWH := Lib.hid (fun k (hk : k < x.hosts.length) => (show (Host.wt x.hosts[k] : Int) ≤ 1048576 by have := wtL_get (f := Host.wt) hk; omega))
  have HWQ := Lib.hid (fun k (hk : k < x.pods.length) => (show (Pod.wt x.pods[k].pod : Int) ≤ 1048576 by have := wtL_get (f := Placed.wt) hk; have e : Placed.wt x.pods[k] = Pod.wt x.pods[k].pod + x.pods[k].on.size := rfl; omega))
  have hr := h
  obtain ⟨Ahosts, chosts, Fhosts, Apods, cpods, Fpods, hck, hF, hhosts, hpods, hnext, hweightspack, hweightsspread, hweightssoft⟩ := rd_Cluster hr
  subst hck
  clear hF hr hwx
  have HHS := Lib.hid (show ∀ y ∈ x.hosts, (hostBytes y).size ≤ 4500000000000 by
    intro y hy
    obtain ⟨k, hk, rfl⟩ := List.getElem_of_mem hy
    obtain ⟨b, o, ck, Fk, _, _, _, hr, _⟩ := hhosts.get hk
    exact hostBytes_size hr (HWH.out k hk))
  have HPS := Lib.hid (show ∀ y ∈ x.pods, (podBytes y.pod).size ≤ 9000000000000 by
    intro y hy
    obtain ⟨k, hk, rfl⟩ := List.getElem_of_mem hy
    obtain ⟨b, o, ck, Fk, _, _, _, hr, _⟩ := hpods.get hk
    obtain ⟨_, _, _, _, _, _, hpp, _⟩ := hr
    exact podBytes_size hpp (HWQ.out k hk))
  have HSQ := Lib.hid hpods.placed_seq
  cases hR : clusterR x with
  | false =>
    have HF := Lib.hid (show snapText x = ⟨#[]⟩ by unfold snapText; rw [hR]; rfl)
    have HR := Lib.hid hR
    clear hR
    go_enter Tryz.func19, Tryz.ntmps19
    go_wp2_with fail
    refine (ClusterOk_impl x _ _ _ (rd_extT h (by repeat (first | with_reducible exact ext_refl _ | with_reducible assumption | with_reducible refine ext_alloc ?_ _ | with_reducible refine ext_trans ?_ (by assumption)))) hw).mono ?_
    rw [HR.out]
    rintro e w2 ⟨rfl, hb2⟩
    go_wp2
    go_ret
    exact ⟨by rw [HF.out]; rfl, (by repeat (first | with_reducible exact ext_refl _ | with_reducible assumption | with_reducible refine ext_alloc ?_ _ | with_reducible refine ext_trans ?_ (by assumption)))⟩
  | true =>
    have HF := Lib.hid (show snapText x = snapPods x x.pods.length by unfold snapText; rw [hR]; rfl)
    have HR := Lib.hid hR
    have HC := HR
    obtain ⟨hl8, hl12⟩ := clusterR_lens hR
    clear hR
    go_enter Tryz.func19, Tryz.ntmps19
    go_wp2_with fail
    refine (ClusterOk_impl x _ _ _ (rd_extT h (by repeat (first | with_reducible exact ext_refl _ | with_reducible assumption | with_reducible refine ext_alloc ?_ _ | with_reducible refine ext_trans ?_ (by assumption)))) hw).mono ?_
    rw [HR.out]
    rintro e w2 ⟨rfl, hb2⟩
    obtain ⟨hc2, hf2⟩ := bcell hb2; have hz2 : w.heap.size < w2.heap.size := (by have := hb2.size; (try simp at this); omega)
    have hq1 := varText_size x.weights.pack hweightspack
    have hq2 := varText_size x.weights.spread hweightsspread
    have hq3 := varText_size x.weights.soft hweightssoft
    have hq4 := varText_size x.next hnext
    have hlI : I64 (x.hosts.length : Int) := by unfold I64; omega
    have hlP : I64 (x.pods.length : Int) := by unfold I64; omega
    have hq5 := varText_size x.hosts.length hlI
    have hq6 := varText_size x.pods.length hlP
    have B2 := Lib.hid ((Blk.new w [.slice Ahosts x.hosts.length chosts, .slice Apods x.pods.length cpods, .int .i64 x.next, .int .i64 x.weights.pack, .int .i64 x.weights.spread, .int .i64 x.weights.soft] 41).ext hb2)
    have hB2 : Below w.heap.size w w2 := (by repeat (first | with_reducible exact ext_refl _ | with_reducible assumption | with_reducible refine ext_alloc ?_ _ | with_reducible refine ext_trans ?_ (by assumption)))
    have hhs : (snapHead x).size ≤ 50 := by
      unfold snapHead
      simp only [ByteArray.size_append]
      omega
    have HX := Lib.hid h
    go_wp2_with fail
    refine wp_region_grow w2 (by kernel_rfl) (by kernel_rfl) (ext_refl _) ?_
    repeat (first
      | (apply inText_skip
         case hw => rfl
         simp only [Act.put, List.setIfInBounds_toArray, List.set_cons_zero, List.set_cons_succ])
      | (apply inText_step
         case hw => rfl
         case h =>
           intro wq hq
           have hcq := (cls_cell hq).1
           have hfq := (cls_cell hq).2
           go_simp
           first
             | exact ⟨hq, rfl⟩
             | exact ⟨cls_alloc hq _, rfl⟩
             | (refine (VarText_impl _ _ (by first | assumption | (unfold I64; omega))).mono ?_; rintro e wz ⟨rfl, hbz0⟩; exact ⟨rfl, cls_trans hq hbz0⟩)
             | (simp only [↓IntWalk.iteOmega]; exact ⟨hq, rfl⟩)
         simp only [Act.put, List.setIfInBounds_toArray, List.set_cons_zero, List.set_cons_succ]))
    refine inText_nil ?_
    intro wn hn
    replace hn := hn.out
    have BN := B2.out.ext hn
    have d0 := BN.cell (i := 0) (u := .slice Ahosts x.hosts.length chosts) rfl
    have d1 := BN.cell (i := 1) (u := .slice Apods x.pods.length cpods) rfl
    have d2 := BN.cell (i := 2) (u := .int .i64 x.next) rfl
    have d3 := BN.cell (i := 3) (u := .int .i64 x.weights.pack) rfl
    have d4 := BN.cell (i := 4) (u := .int .i64 x.weights.spread) rfl
    have d5 := BN.cell (i := 5) (u := .int .i64 x.weights.soft) rfl
    have hBn : Below w.heap.size w wn := ext_trans hB2 hn
    go_wp2_with fail
    go_loopw [3, 37] (fun s i wr => ∃ k : Nat, k ≤ x.hosts.length ∧ i = .int .i64 k ∧ s = .string (snapHosts x k) ∧ Blk wr w.heap.size [.slice Ahosts x.hosts.length chosts, .slice Apods x.pods.length cpods, .int .i64 x.next, .int .i64 x.weights.pack, .int .i64 x.weights.spread, .int .i64 x.weights.soft] ∧ Below w.heap.size w wr) (fun _ i _ => x.hosts.length - (intOf i).toNat)
    case atStart => exact ⟨0, Nat.zero_le _, rfl, rfl, BN, hBn⟩
    case round =>
      obtain ⟨k, hk, rfl, rfl, hBK, hbl⟩ := hrel
      have hbz : w.heap.size < wr.heap.size := hBK.lt
      obtain ⟨wo, hwo⟩ : ∃ wo, wo = wr := ⟨_, rfl⟩
      subst hwo
      have c0 := hBK.cell (i := 0) (u := .slice Ahosts x.hosts.length chosts) rfl
      have c1 := hBK.cell (i := 1) (u := .slice Apods x.pods.length cpods) rfl
      have c2 := hBK.cell (i := 2) (u := .int .i64 x.next) rfl
      have c3 := hBK.cell (i := 3) (u := .int .i64 x.weights.pack) rfl
      have c4 := hBK.cell (i := 4) (u := .int .i64 x.weights.spread) rfl
      have c5 := hBK.cell (i := 5) (u := .int .i64 x.weights.soft) rfl
      by_cases hlt : k < x.hosts.length
      · obtain ⟨b, o, ck, Fk, rfl, hbF, hbs, hr, hsub, hc⟩ := (Sl.ext (w' := wo) (A := Ahosts) (c := chosts) hhosts hbl).get hlt
        have hr3 := hr
        obtain ⟨Alabels3, clabels3, Flabels3, Ataints3, ctaints3, Ftaints3, hck, hFk, hname3, hlabels3, hcpu3, hmem3, hslots3, htaints3⟩ := rd_Host hr3
        subst hck
        have q0 : wo.cell? ⟨b, o + k * 6, none⟩ = some (.string x.hosts[k].name) := by exact hc 0 _ rfl
        have q1 : wo.cell? ⟨b, o + k * 6 + 1, none⟩ = some (.slice Alabels3 x.hosts[k].labels.length clabels3) := by rw [Nat.add_assoc]; exact hc 1 _ rfl
        have q2 : wo.cell? ⟨b, o + k * 6 + 2, none⟩ = some (.int .i64 x.hosts[k].cpu) := by rw [Nat.add_assoc]; exact hc 2 _ rfl
        have q3 : wo.cell? ⟨b, o + k * 6 + 3, none⟩ = some (.int .i64 x.hosts[k].mem) := by rw [Nat.add_assoc]; exact hc 3 _ rfl
        have q4 : wo.cell? ⟨b, o + k * 6 + 4, none⟩ = some (.int .i64 x.hosts[k].slots) := by rw [Nat.add_assoc]; exact hc 4 _ rfl
        have q5 : wo.cell? ⟨b, o + k * 6 + 5, none⟩ = some (.slice Ataints3 x.hosts[k].taints.length ctaints3) := by rw [Nat.add_assoc]; exact hc 5 _ rfl
        clear hc hr3
        have hbs0 := snapHosts_size x HHS.out k hk
        have hhb := HHS.out x.hosts[k] (List.getElem_mem ..)
        have hkk : k * 4500000000000 ≤ 8 * 4500000000000 := Nat.mul_le_mul_right _ (by omega)
        have HNX := Lib.hid (snapHosts_next hlt)
        generalize hS : snapHosts x k = S0 at HNX hbs0 ⊢
        go_wp2_with fail
        refine (HostBytes_impl x.hosts[k] _ _ _ (rd_extT hr (by repeat (first | with_reducible exact ext_refl _ | with_reducible assumption | with_reducible refine ext_alloc ?_ _ | with_reducible refine ext_trans ?_ (by assumption)))) (HWH.out k hlt)).mono ?_
        rintro e wn3 ⟨rfl, hn3⟩
        go_wp2
        exact ⟨⟨k + 1, by omega, by go_num, by rw [HNX.out], (hBK.ext (ext_alloc (ext_refl _) _)).ext hn3, ext_trans (ext_alloc hbl _) hn3⟩, by simp [intOf]; omega⟩
      · have hkl : k = x.hosts.length := by omega
        subst hkl
        have hbs0 := snapHosts_size x HHS.out x.hosts.length (Nat.le_refl _)
        have hkk : x.hosts.length * 4500000000000 ≤ 8 * 4500000000000 := Nat.mul_le_mul_right _ (by omega)
        have hmid : (snapMid x).size ≤ (snapHosts x x.hosts.length).size + 10 := by
          unfold snapMid
          rw [ByteArray.size_append]
          omega
        have HM := Lib.hid (show snapMid x = snapHosts x x.hosts.length ++ varText x.pods.length from rfl)
        generalize hS : snapHosts x x.hosts.length = S0 at HM hbs0 hmid ⊢
        go_wp2_with fail
        refine (VarText_impl _ _ hlP).mono ?_
        rintro e wn4 ⟨rfl, hn4⟩
        have BM := hBK.ext hn4
        have e0 := BM.cell (i := 0) (u := .slice Ahosts x.hosts.length chosts) rfl
        have e1 := BM.cell (i := 1) (u := .slice Apods x.pods.length cpods) rfl
        have e2 := BM.cell (i := 2) (u := .int .i64 x.next) rfl
        have e3 := BM.cell (i := 3) (u := .int .i64 x.weights.pack) rfl
        have e4 := BM.cell (i := 4) (u := .int .i64 x.weights.spread) rfl
        have e5 := BM.cell (i := 5) (u := .int .i64 x.weights.soft) rfl
        have hBm : Below w.heap.size w wn4 := ext_trans hbl hn4
        go_wp2_with fail
        go_loopw [3, 55] (fun s i wr => ∃ k : Nat, k ≤ x.pods.length ∧ i = .int .i64 k ∧ s = .string (snapPods x k) ∧ Blk wr w.heap.size [.slice Ahosts x.hosts.length chosts, .slice Apods x.pods.length cpods, .int .i64 x.next, .int .i64 x.weights.pack, .int .i64 x.weights.spread, .int .i64 x.weights.soft] ∧ Below w.heap.size w wr) (fun _ i _ => x.pods.length - (intOf i).toNat)
        case atStart => exact ⟨0, Nat.zero_le _, rfl, by rw [← HM.out]; rfl, BM, hBm⟩
        case round =>
          obtain ⟨k, hk, rfl, rfl, hBL, hbl2⟩ := hrel
          have hbz2 : w.heap.size < wr.heap.size := hBL.lt
          have f0 := hBL.cell (i := 0) (u := .slice Ahosts x.hosts.length chosts) rfl
          have f1 := hBL.cell (i := 1) (u := .slice Apods x.pods.length cpods) rfl
          have f2 := hBL.cell (i := 2) (u := .int .i64 x.next) rfl
          have f3 := hBL.cell (i := 3) (u := .int .i64 x.weights.pack) rfl
          have f4 := hBL.cell (i := 4) (u := .int .i64 x.weights.spread) rfl
          have f5 := hBL.cell (i := 5) (u := .int .i64 x.weights.soft) rfl
          by_cases hlt : k < x.pods.length
          · obtain ⟨b, o, ck, Fk, rfl, hbF, hbs, hr, hsub, hc⟩ := (Sl.ext (w' := wr) (A := Apods) (c := cpods) hpods hbl2).get hlt
            have hr3 := hr
            have hr4 := hr
            obtain ⟨Apodlabels3, cpodlabels3, Fpodlabels3, Apodneeds3, cpodneeds3, Fpodneeds3, Apodtolerances3, cpodtolerances3, Fpodtolerances3, hck, hFk, hpodname3, hpodlabels3, hpodcpu3, hpodmem3, hpodrank3, hpodneeds3, hpodtolerances3, hon3, hseq3⟩ := rd_Placed hr3
            subst hck
            have q0 : wr.cell? ⟨b, o + k * 9, none⟩ = some (.string x.pods[k].pod.name) := by exact hc 0 _ rfl
            have q1 : wr.cell? ⟨b, o + k * 9 + 1, none⟩ = some (.slice Apodlabels3 x.pods[k].pod.labels.length cpodlabels3) := by rw [Nat.add_assoc]; exact hc 1 _ rfl
            have q2 : wr.cell? ⟨b, o + k * 9 + 2, none⟩ = some (.int .i64 x.pods[k].pod.cpu) := by rw [Nat.add_assoc]; exact hc 2 _ rfl
            have q3 : wr.cell? ⟨b, o + k * 9 + 3, none⟩ = some (.int .i64 x.pods[k].pod.mem) := by rw [Nat.add_assoc]; exact hc 3 _ rfl
            have q4 : wr.cell? ⟨b, o + k * 9 + 4, none⟩ = some (.int .i64 x.pods[k].pod.rank) := by rw [Nat.add_assoc]; exact hc 4 _ rfl
            have q5 : wr.cell? ⟨b, o + k * 9 + 5, none⟩ = some (.slice Apodneeds3 x.pods[k].pod.needs.length cpodneeds3) := by rw [Nat.add_assoc]; exact hc 5 _ rfl
            have q6 : wr.cell? ⟨b, o + k * 9 + 6, none⟩ = some (.slice Apodtolerances3 x.pods[k].pod.tolerances.length cpodtolerances3) := by rw [Nat.add_assoc]; exact hc 6 _ rfl
            have q7 : wr.cell? ⟨b, o + k * 9 + 7, none⟩ = some (.string x.pods[k].on) := by rw [Nat.add_assoc]; exact hc 7 _ rfl
            have q8 : wr.cell? ⟨b, o + k * 9 + 8, none⟩ = some (.int .i64 x.pods[k].seq) := by rw [Nat.add_assoc]; exact hc 8 _ rfl
            clear hc hr3
            obtain ⟨dpod, don, Gpod, Gon, hdc, hdG, hrpod, _⟩ := hr4
            have hrpod2 : rd wr x.pods[k].pod [.string x.pods[k].pod.name, .slice Apodlabels3 x.pods[k].pod.labels.length cpodlabels3, .int .i64 x.pods[k].pod.cpu, .int .i64 x.pods[k].pod.mem, .int .i64 x.pods[k].pod.rank, .slice Apodneeds3 x.pods[k].pod.needs.length cpodneeds3, .slice Apodtolerances3 x.pods[k].pod.tolerances.length cpodtolerances3] Gpod := by
              have hl7 : dpod.length = 7 := Dat.len hrpod
              have h2 : List.take 7 (dpod ++ don) = dpod := by rw [List.take_append_of_le_length (by omega), List.take_of_length_le (by omega)]
              have h3 := congrArg (List.take 7) hdc
              rw [h2] at h3
              rw [← h3] at hrpod
              exact hrpod
            clear hdc hdG hrpod
            have HQ := Lib.hid hrpod2
            clear hrpod2
            have HBL := Lib.hid hbl2
            have HBK := Lib.hid hBL
            have hbs0 := snapPods_size x HPS.out hlen HSQ.out k hk
            have hhb := HPS.out x.pods[k] (List.getElem_mem ..)
            have hpb := placeB_size (x := x) (p := x.pods[k]) hlen (HSQ.out _ (List.getElem_mem ..))
            have hkk : k * 9000000000020 ≤ 12 * 9000000000020 := Nat.mul_le_mul_right _ (by omega)
            have HNX := Lib.hid (snapPods_next hlt)
            generalize hS : snapPods x k = S0 at HNX hbs0 ⊢
            go_wp2_with fail
            refine wp_region_grow _ (by kernel_rfl) (by kernel_rfl) (ext_refl _) ?_
            repeat (first
              | (apply inText_skip
                 case hw => rfl
                 simp only [Act.put, List.setIfInBounds_toArray, List.set_cons_zero, List.set_cons_succ])
              | (apply inText_step
                 case hw => rfl
                 case h =>
                   intro wq hq
                   have hcq := (cls_cell hq).1
                   have hfq := (cls_cell hq).2
                   have BQ := HBK.out.ext (ext_trans (by repeat (first | with_reducible exact ext_refl _ | with_reducible assumption | with_reducible refine ext_alloc ?_ _ | with_reducible refine ext_trans ?_ (by assumption))) hq)
                   have q0 := BQ.cell (i := 0) (u := .slice Ahosts x.hosts.length chosts) rfl
                   have q1 := BQ.cell (i := 1) (u := .slice (some ⟨b, o, none⟩) x.pods.length cpods) rfl
                   have q2 := BQ.cell (i := 2) (u := .int .i64 x.next) rfl
                   have q3 := BQ.cell (i := 3) (u := .int .i64 x.weights.pack) rfl
                   have q4 := BQ.cell (i := 4) (u := .int .i64 x.weights.spread) rfl
                   have q5 := BQ.cell (i := 5) (u := .int .i64 x.weights.soft) rfl
                   go_simp
                   first
                     | exact ⟨hq, rfl⟩
                     | exact ⟨cls_alloc hq _, rfl⟩
                     | (first | (refine (PodBytes_impl x.pods[k].pod _ _ _ (rd_extT HQ.out (ext_trans (by repeat (first | with_reducible exact ext_refl _ | with_reducible assumption | with_reducible refine ext_alloc ?_ _ | with_reducible refine ext_trans ?_ (by assumption))) hq)) (HWQ.out k hlt)).mono ?_; rintro e wz ⟨rfl, hbz0⟩; exact ⟨rfl, cls_trans hq hbz0⟩) | (refine (placeBytes_impl x _ _ x.pods[k] _ _ _ (rd_extT HX.out (ext_trans HBL.out (ext_trans (by repeat (first | with_reducible exact ext_refl _ | with_reducible assumption | with_reducible refine ext_alloc ?_ _ | with_reducible refine ext_trans ?_ (by assumption))) hq))) (rd_extT hr (ext_trans (by repeat (first | with_reducible exact ext_refl _ | with_reducible assumption | with_reducible refine ext_alloc ?_ _ | with_reducible refine ext_trans ?_ (by assumption))) hq)) hlen).mono ?_; rintro e wz ⟨rfl, hbz0⟩; exact ⟨rfl, cls_trans hq hbz0⟩))
                     | (simp only [↓IntWalk.iteOmega]; exact ⟨hq, rfl⟩)
                 simp only [Act.put, List.setIfInBounds_toArray, List.set_cons_zero, List.set_cons_succ]))
            refine inText_nil ?_
            intro wn5 hn5
            replace hn5 := hn5.out
            go_wp2
            exact ⟨⟨k + 1, by omega, by go_num, by rw [HNX.out]; unfold placedB; simp only [ByteArray.append_assoc], (hBL.ext (ext_alloc (ext_refl _) _)).ext hn5, ext_trans (ext_alloc hbl2 _) hn5⟩, by simp [intOf]; omega⟩
          · have hkl : k = x.pods.length := by omega
            subst hkl
            go_wp2
            go_ret
            exact ⟨by rw [HF.out]; rfl, hbl2⟩
set_option maxRecDepth 100000 in
set_option maxHeartbeats 4000000 in
theorem SnapText_spec (x : Cluster) (cs : List Value) (F : List Nat) (w : World) (h : rd w x cs F) (hw : (x.wt : Int) ≤ 1048576) :
    Calls Tryz.prog 18 #[.agg cs.toArray] w fun e w' => e = .returned (.string (snapText x)) ∧ Below w.heap.size w w' := by
  have hwx : x.wt = wtL Host.wt x.hosts + wtL Placed.wt x.pods := rfl
  have hlen : (x.hosts.length : Int) ≤ 1048576 := by have := wtL_len Host.wt x.hosts; omega
  have hplen : (x.pods.length : Int) ≤ 1048576 := by have := wtL_len Placed.wt x.pods; omega
  have HWH := Lib.hid (fun k (hk : k < x.hosts.length) => (show (Host.wt x.hosts[k] : Int) ≤ 1048576 by have := wtL_get (f := Host.wt) hk; omega))
  have HWQ := Lib.hid (fun k (hk : k < x.pods.length) => (show (Pod.wt x.pods[k].pod : Int) ≤ 1048576 by have := wtL_get (f := Placed.wt) hk; have e : Placed.wt x.pods[k] = Pod.wt x.pods[k].pod + x.pods[k].on.size := rfl; omega))
  have hr := h
  obtain ⟨Ahosts, chosts, Fhosts, Apods, cpods, Fpods, hck, hF, hhosts, hpods, hnext, hweightspack, hweightsspread, hweightssoft⟩ := rd_Cluster hr
  subst hck
  clear hF hr hwx
  have HHS := Lib.hid (show ∀ y ∈ x.hosts, (hostBytes y).size ≤ 4500000000000 by
    intro y hy
    obtain ⟨k, hk, rfl⟩ := List.getElem_of_mem hy
    obtain ⟨b, o, ck, Fk, _, _, _, hr, _⟩ := hhosts.get hk
    exact hostBytes_size hr (HWH.out k hk))
  have HPS := Lib.hid (show ∀ y ∈ x.pods, (podBytes y.pod).size ≤ 9000000000000 by
    intro y hy
    obtain ⟨k, hk, rfl⟩ := List.getElem_of_mem hy
    obtain ⟨b, o, ck, Fk, _, _, _, hr, _⟩ := hpods.get hk
    obtain ⟨_, _, _, _, _, _, hpp, _⟩ := hr
    exact podBytes_size hpp (HWQ.out k hk))
  have HSQ := Lib.hid hpods.placed_seq
  cases hR : clusterR x with
  | false =>
    have HF := Lib.hid (show snapText x = ⟨#[]⟩ by unfold snapText; rw [hR]; rfl)
    have HR := Lib.hid hR
    clear hR
    go_enter Tryz.func18, Tryz.ntmps18
    go_wp2_with fail
    refine (ClusterOk_spec x _ _ _ (rd_extT h (by repeat (first | with_reducible exact ext_refl _ | with_reducible assumption | with_reducible refine ext_alloc ?_ _ | with_reducible refine ext_trans ?_ (by assumption)))) hw).mono ?_
    rw [HR.out]
    rintro e w2 ⟨rfl, hb2⟩
    go_wp2
    go_ret
    exact ⟨by rw [HF.out]; rfl, (by repeat (first | with_reducible exact ext_refl _ | with_reducible assumption | with_reducible refine ext_alloc ?_ _ | with_reducible refine ext_trans ?_ (by assumption)))⟩
  | true =>
    have HF := Lib.hid (show snapText x = snapPods x x.pods.length by unfold snapText; rw [hR]; rfl)
    have HR := Lib.hid hR
    have HC := HR
    obtain ⟨hl8, hl12⟩ := clusterR_lens hR
    clear hR
    go_enter Tryz.func18, Tryz.ntmps18
    go_wp2_with fail
    refine (ClusterOk_spec x _ _ _ (rd_extT h (by repeat (first | with_reducible exact ext_refl _ | with_reducible assumption | with_reducible refine ext_alloc ?_ _ | with_reducible refine ext_trans ?_ (by assumption)))) hw).mono ?_
    rw [HR.out]
    rintro e w2 ⟨rfl, hb2⟩
    obtain ⟨hc2, hf2⟩ := bcell hb2; have hz2 : w.heap.size < w2.heap.size := (by have := hb2.size; (try simp at this); omega)
    have hq1 := varText_size x.weights.pack hweightspack
    have hq2 := varText_size x.weights.spread hweightsspread
    have hq3 := varText_size x.weights.soft hweightssoft
    have hq4 := varText_size x.next hnext
    have hlI : I64 (x.hosts.length : Int) := by unfold I64; omega
    have hlP : I64 (x.pods.length : Int) := by unfold I64; omega
    have hq5 := varText_size x.hosts.length hlI
    have hq6 := varText_size x.pods.length hlP
    have B2 := Lib.hid ((Blk.new w [.slice Ahosts x.hosts.length chosts, .slice Apods x.pods.length cpods, .int .i64 x.next, .int .i64 x.weights.pack, .int .i64 x.weights.spread, .int .i64 x.weights.soft] 41).ext hb2)
    have hB2 : Below w.heap.size w w2 := (by repeat (first | with_reducible exact ext_refl _ | with_reducible assumption | with_reducible refine ext_alloc ?_ _ | with_reducible refine ext_trans ?_ (by assumption)))
    have hhs : (snapHead x).size ≤ 50 := by
      unfold snapHead
      simp only [ByteArray.size_append]
      omega
    have HX := Lib.hid h
    go_wp2_with fail
    refine wp_region_grow w2 (by kernel_rfl) (by kernel_rfl) (ext_refl _) ?_
    repeat (first
      | (apply inText_skip
         case hw => rfl
         simp only [Act.put, List.setIfInBounds_toArray, List.set_cons_zero, List.set_cons_succ])
      | (apply inText_step
         case hw => rfl
         case h =>
           intro wq hq
           have hcq := (cls_cell hq).1
           have hfq := (cls_cell hq).2
           go_simp
           first
             | exact ⟨hq, rfl⟩
             | exact ⟨cls_alloc hq _, rfl⟩
             | (refine (VarText_spec _ _ (by first | assumption | (unfold I64; omega))).mono ?_; rintro e wz ⟨rfl, hbz0⟩; exact ⟨rfl, cls_trans hq hbz0⟩)
             | (simp only [↓IntWalk.iteOmega]; exact ⟨hq, rfl⟩)
         simp only [Act.put, List.setIfInBounds_toArray, List.set_cons_zero, List.set_cons_succ]))
    refine inText_nil ?_
    intro wn hn
    replace hn := hn.out
    have BN := B2.out.ext hn
    have d0 := BN.cell (i := 0) (u := .slice Ahosts x.hosts.length chosts) rfl
    have d1 := BN.cell (i := 1) (u := .slice Apods x.pods.length cpods) rfl
    have d2 := BN.cell (i := 2) (u := .int .i64 x.next) rfl
    have d3 := BN.cell (i := 3) (u := .int .i64 x.weights.pack) rfl
    have d4 := BN.cell (i := 4) (u := .int .i64 x.weights.spread) rfl
    have d5 := BN.cell (i := 5) (u := .int .i64 x.weights.soft) rfl
    have hBn : Below w.heap.size w wn := ext_trans hB2 hn
    go_wp2_with fail
    go_loopw [3, 4] (fun s i wr => ∃ k : Nat, k ≤ x.hosts.length ∧ i = .int .i64 k ∧ s = .string (snapHosts x k) ∧ Blk wr w.heap.size [.slice Ahosts x.hosts.length chosts, .slice Apods x.pods.length cpods, .int .i64 x.next, .int .i64 x.weights.pack, .int .i64 x.weights.spread, .int .i64 x.weights.soft] ∧ Below w.heap.size w wr) (fun _ i _ => x.hosts.length - (intOf i).toNat)
    case atStart => exact ⟨0, Nat.zero_le _, rfl, rfl, BN, hBn⟩
    case round =>
      obtain ⟨k, hk, rfl, rfl, hBK, hbl⟩ := hrel
      have hbz : w.heap.size < wr.heap.size := hBK.lt
      obtain ⟨wo, hwo⟩ : ∃ wo, wo = wr := ⟨_, rfl⟩
      subst hwo
      have c0 := hBK.cell (i := 0) (u := .slice Ahosts x.hosts.length chosts) rfl
      have c1 := hBK.cell (i := 1) (u := .slice Apods x.pods.length cpods) rfl
      have c2 := hBK.cell (i := 2) (u := .int .i64 x.next) rfl
      have c3 := hBK.cell (i := 3) (u := .int .i64 x.weights.pack) rfl
      have c4 := hBK.cell (i := 4) (u := .int .i64 x.weights.spread) rfl
      have c5 := hBK.cell (i := 5) (u := .int .i64 x.weights.soft) rfl
      by_cases hlt : k < x.hosts.length
      · obtain ⟨b, o, ck, Fk, rfl, hbF, hbs, hr, hsub, hc⟩ := (Sl.ext (w' := wo) (A := Ahosts) (c := chosts) hhosts hbl).get hlt
        have hr3 := hr
        obtain ⟨Alabels3, clabels3, Flabels3, Ataints3, ctaints3, Ftaints3, hck, hFk, hname3, hlabels3, hcpu3, hmem3, hslots3, htaints3⟩ := rd_Host hr3
        subst hck
        have q0 : wo.cell? ⟨b, o + k * 6, none⟩ = some (.string x.hosts[k].name) := by exact hc 0 _ rfl
        have q1 : wo.cell? ⟨b, o + k * 6 + 1, none⟩ = some (.slice Alabels3 x.hosts[k].labels.length clabels3) := by rw [Nat.add_assoc]; exact hc 1 _ rfl
        have q2 : wo.cell? ⟨b, o + k * 6 + 2, none⟩ = some (.int .i64 x.hosts[k].cpu) := by rw [Nat.add_assoc]; exact hc 2 _ rfl
        have q3 : wo.cell? ⟨b, o + k * 6 + 3, none⟩ = some (.int .i64 x.hosts[k].mem) := by rw [Nat.add_assoc]; exact hc 3 _ rfl
        have q4 : wo.cell? ⟨b, o + k * 6 + 4, none⟩ = some (.int .i64 x.hosts[k].slots) := by rw [Nat.add_assoc]; exact hc 4 _ rfl
        have q5 : wo.cell? ⟨b, o + k * 6 + 5, none⟩ = some (.slice Ataints3 x.hosts[k].taints.length ctaints3) := by rw [Nat.add_assoc]; exact hc 5 _ rfl
        clear hc hr3
        have hbs0 := snapHosts_size x HHS.out k hk
        have hhb := HHS.out x.hosts[k] (List.getElem_mem ..)
        have hkk : k * 4500000000000 ≤ 8 * 4500000000000 := Nat.mul_le_mul_right _ (by omega)
        have HNX := Lib.hid (snapHosts_next hlt)
        generalize hS : snapHosts x k = S0 at HNX hbs0 ⊢
        go_wp2_with fail
        refine (HostBytes_spec x.hosts[k] _ _ _ (rd_extT hr (by repeat (first | with_reducible exact ext_refl _ | with_reducible assumption | with_reducible refine ext_alloc ?_ _ | with_reducible refine ext_trans ?_ (by assumption)))) (HWH.out k hlt)).mono ?_
        rintro e wn3 ⟨rfl, hn3⟩
        go_wp2
        exact ⟨⟨k + 1, by omega, by go_num, by rw [HNX.out], hBK.ext hn3, ext_trans hbl hn3⟩, by simp [intOf]; omega⟩
      · have hkl : k = x.hosts.length := by omega
        subst hkl
        have hbs0 := snapHosts_size x HHS.out x.hosts.length (Nat.le_refl _)
        have hkk : x.hosts.length * 4500000000000 ≤ 8 * 4500000000000 := Nat.mul_le_mul_right _ (by omega)
        have hmid : (snapMid x).size ≤ (snapHosts x x.hosts.length).size + 10 := by
          unfold snapMid
          rw [ByteArray.size_append]
          omega
        have HM := Lib.hid (show snapMid x = snapHosts x x.hosts.length ++ varText x.pods.length from rfl)
        generalize hS : snapHosts x x.hosts.length = S0 at HM hbs0 hmid ⊢
        go_wp2_with fail
        refine (VarText_spec _ _ hlP).mono ?_
        rintro e wn4 ⟨rfl, hn4⟩
        have BM := hBK.ext hn4
        have e0 := BM.cell (i := 0) (u := .slice Ahosts x.hosts.length chosts) rfl
        have e1 := BM.cell (i := 1) (u := .slice Apods x.pods.length cpods) rfl
        have e2 := BM.cell (i := 2) (u := .int .i64 x.next) rfl
        have e3 := BM.cell (i := 3) (u := .int .i64 x.weights.pack) rfl
        have e4 := BM.cell (i := 4) (u := .int .i64 x.weights.spread) rfl
        have e5 := BM.cell (i := 5) (u := .int .i64 x.weights.soft) rfl
        have hBm : Below w.heap.size w wn4 := ext_trans hbl hn4
        go_wp2_with fail
        go_loopw [3, 5] (fun s i wr => ∃ k : Nat, k ≤ x.pods.length ∧ i = .int .i64 k ∧ s = .string (snapPods x k) ∧ Blk wr w.heap.size [.slice Ahosts x.hosts.length chosts, .slice Apods x.pods.length cpods, .int .i64 x.next, .int .i64 x.weights.pack, .int .i64 x.weights.spread, .int .i64 x.weights.soft] ∧ Below w.heap.size w wr) (fun _ i _ => x.pods.length - (intOf i).toNat)
        case atStart => exact ⟨0, Nat.zero_le _, rfl, by rw [← HM.out]; rfl, BM, hBm⟩
        case round =>
          obtain ⟨k, hk, rfl, rfl, hBL, hbl2⟩ := hrel
          have hbz2 : w.heap.size < wr.heap.size := hBL.lt
          have f0 := hBL.cell (i := 0) (u := .slice Ahosts x.hosts.length chosts) rfl
          have f1 := hBL.cell (i := 1) (u := .slice Apods x.pods.length cpods) rfl
          have f2 := hBL.cell (i := 2) (u := .int .i64 x.next) rfl
          have f3 := hBL.cell (i := 3) (u := .int .i64 x.weights.pack) rfl
          have f4 := hBL.cell (i := 4) (u := .int .i64 x.weights.spread) rfl
          have f5 := hBL.cell (i := 5) (u := .int .i64 x.weights.soft) rfl
          by_cases hlt : k < x.pods.length
          · obtain ⟨b, o, ck, Fk, rfl, hbF, hbs, hr, hsub, hc⟩ := (Sl.ext (w' := wr) (A := Apods) (c := cpods) hpods hbl2).get hlt
            have hr3 := hr
            have hr4 := hr
            obtain ⟨Apodlabels3, cpodlabels3, Fpodlabels3, Apodneeds3, cpodneeds3, Fpodneeds3, Apodtolerances3, cpodtolerances3, Fpodtolerances3, hck, hFk, hpodname3, hpodlabels3, hpodcpu3, hpodmem3, hpodrank3, hpodneeds3, hpodtolerances3, hon3, hseq3⟩ := rd_Placed hr3
            subst hck
            have q0 : wr.cell? ⟨b, o + k * 9, none⟩ = some (.string x.pods[k].pod.name) := by exact hc 0 _ rfl
            have q1 : wr.cell? ⟨b, o + k * 9 + 1, none⟩ = some (.slice Apodlabels3 x.pods[k].pod.labels.length cpodlabels3) := by rw [Nat.add_assoc]; exact hc 1 _ rfl
            have q2 : wr.cell? ⟨b, o + k * 9 + 2, none⟩ = some (.int .i64 x.pods[k].pod.cpu) := by rw [Nat.add_assoc]; exact hc 2 _ rfl
            have q3 : wr.cell? ⟨b, o + k * 9 + 3, none⟩ = some (.int .i64 x.pods[k].pod.mem) := by rw [Nat.add_assoc]; exact hc 3 _ rfl
            have q4 : wr.cell? ⟨b, o + k * 9 + 4, none⟩ = some (.int .i64 x.pods[k].pod.rank) := by rw [Nat.add_assoc]; exact hc 4 _ rfl
            have q5 : wr.cell? ⟨b, o + k * 9 + 5, none⟩ = some (.slice Apodneeds3 x.pods[k].pod.needs.length cpodneeds3) := by rw [Nat.add_assoc]; exact hc 5 _ rfl
            have q6 : wr.cell? ⟨b, o + k * 9 + 6, none⟩ = some (.slice Apodtolerances3 x.pods[k].pod.tolerances.length cpodtolerances3) := by rw [Nat.add_assoc]; exact hc 6 _ rfl
            have q7 : wr.cell? ⟨b, o + k * 9 + 7, none⟩ = some (.string x.pods[k].on) := by rw [Nat.add_assoc]; exact hc 7 _ rfl
            have q8 : wr.cell? ⟨b, o + k * 9 + 8, none⟩ = some (.int .i64 x.pods[k].seq) := by rw [Nat.add_assoc]; exact hc 8 _ rfl
            clear hc hr3
            obtain ⟨dpod, don, Gpod, Gon, hdc, hdG, hrpod, _⟩ := hr4
            have hrpod2 : rd wr x.pods[k].pod [.string x.pods[k].pod.name, .slice Apodlabels3 x.pods[k].pod.labels.length cpodlabels3, .int .i64 x.pods[k].pod.cpu, .int .i64 x.pods[k].pod.mem, .int .i64 x.pods[k].pod.rank, .slice Apodneeds3 x.pods[k].pod.needs.length cpodneeds3, .slice Apodtolerances3 x.pods[k].pod.tolerances.length cpodtolerances3] Gpod := by
              have hl7 : dpod.length = 7 := Dat.len hrpod
              have h2 : List.take 7 (dpod ++ don) = dpod := by rw [List.take_append_of_le_length (by omega), List.take_of_length_le (by omega)]
              have h3 := congrArg (List.take 7) hdc
              rw [h2] at h3
              rw [← h3] at hrpod
              exact hrpod
            clear hdc hdG hrpod
            have HQ := Lib.hid hrpod2
            clear hrpod2
            have HBL := Lib.hid hbl2
            have HBK := Lib.hid hBL
            have hbs0 := snapPods_size x HPS.out hlen HSQ.out k hk
            have hhb := HPS.out x.pods[k] (List.getElem_mem ..)
            have hpb := placeB_size (x := x) (p := x.pods[k]) hlen (HSQ.out _ (List.getElem_mem ..))
            have hkk : k * 9000000000020 ≤ 12 * 9000000000020 := Nat.mul_le_mul_right _ (by omega)
            have HNX := Lib.hid (snapPods_next hlt)
            generalize hS : snapPods x k = S0 at HNX hbs0 ⊢
            go_wp2_with fail
            refine wp_region_grow _ (by kernel_rfl) (by kernel_rfl) (ext_refl _) ?_
            repeat (first
              | (apply inText_skip
                 case hw => rfl
                 simp only [Act.put, List.setIfInBounds_toArray, List.set_cons_zero, List.set_cons_succ])
              | (apply inText_step
                 case hw => rfl
                 case h =>
                   intro wq hq
                   have hcq := (cls_cell hq).1
                   have hfq := (cls_cell hq).2
                   have BQ := HBK.out.ext (ext_trans (by repeat (first | with_reducible exact ext_refl _ | with_reducible assumption | with_reducible refine ext_alloc ?_ _ | with_reducible refine ext_trans ?_ (by assumption))) hq)
                   have q0 := BQ.cell (i := 0) (u := .slice Ahosts x.hosts.length chosts) rfl
                   have q1 := BQ.cell (i := 1) (u := .slice (some ⟨b, o, none⟩) x.pods.length cpods) rfl
                   have q2 := BQ.cell (i := 2) (u := .int .i64 x.next) rfl
                   have q3 := BQ.cell (i := 3) (u := .int .i64 x.weights.pack) rfl
                   have q4 := BQ.cell (i := 4) (u := .int .i64 x.weights.spread) rfl
                   have q5 := BQ.cell (i := 5) (u := .int .i64 x.weights.soft) rfl
                   go_simp
                   first
                     | exact ⟨hq, rfl⟩
                     | exact ⟨cls_alloc hq _, rfl⟩
                     | (first | (refine (PodBytes_spec x.pods[k].pod _ _ _ (rd_extT HQ.out (ext_trans (by repeat (first | with_reducible exact ext_refl _ | with_reducible assumption | with_reducible refine ext_alloc ?_ _ | with_reducible refine ext_trans ?_ (by assumption))) hq)) (HWQ.out k hlt)).mono ?_; rintro e wz ⟨rfl, hbz0⟩; exact ⟨rfl, cls_trans hq hbz0⟩) | (refine (l26Places_spec x _ _ x.pods[k] _ _ _ (rd_extT HX.out (ext_trans HBL.out (ext_trans (by repeat (first | with_reducible exact ext_refl _ | with_reducible assumption | with_reducible refine ext_alloc ?_ _ | with_reducible refine ext_trans ?_ (by assumption))) hq))) (rd_extT hr (ext_trans (by repeat (first | with_reducible exact ext_refl _ | with_reducible assumption | with_reducible refine ext_alloc ?_ _ | with_reducible refine ext_trans ?_ (by assumption))) hq)) hlen HC.out).mono ?_; rintro e wz ⟨rfl, hbz0⟩; exact ⟨rfl, cls_trans hq hbz0⟩))
                     | (simp only [↓IntWalk.iteOmega]; exact ⟨hq, rfl⟩)
                 simp only [Act.put, List.setIfInBounds_toArray, List.set_cons_zero, List.set_cons_succ]))
            refine inText_nil ?_
            intro wn5 hn5
            replace hn5 := hn5.out
            go_wp2
            exact ⟨⟨k + 1, by omega, by go_num, by rw [HNX.out]; unfold placedB; simp only [ByteArray.append_assoc], hBL.ext hn5, ext_trans hbl2 hn5⟩, by simp [intOf]; omega⟩
          · have hkl : k = x.pods.length := by omega
            subst hkl
            go_wp2
            go_ret
            exact ⟨by rw [HF.out]; rfl, hbl2⟩

end Go.Proofs.YtomffjhadgelkaaGreat
