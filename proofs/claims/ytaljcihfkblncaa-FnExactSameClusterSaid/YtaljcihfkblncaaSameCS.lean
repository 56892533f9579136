/- SameCluster, of the reference. No condition. -/
import Derived.Test.YtaljcihfkblncaaSameS
namespace Go.Proofs.Ytaljcihfkblncaa
open Go.ChangeShapes Go.WideShapes Go.ChangeAt Go.RowKit
set_option linter.unusedVariables false
set_option linter.unusedSimpArgs false
set_option maxRecDepth 100000 in
set_option maxHeartbeats 4000000 in
theorem SameCluster_spec (a b : Cluster) (cs ds : List Value) (F G : List Nat) (w : World) (h : rd w a cs F) (h' : rd w b ds G) (hwa : (a.wt : Int) ≤ 1048576) (hwb : (b.wt : Int) ≤ 1048576) :
    Calls Try.prog 29 #[.agg cs.toArray, .agg ds.toArray] w fun e w' => e = .returned (.bool (eqCluster a b)) ∧ Below w.heap.size w w' := by
  have HXH := Lib.hid (show ∀ l ∈ a.hosts, (Host.wt l : Int) ≤ 1048576 by intro l hl; have := wtL_mem (f := Host.wt) hl; have e : a.wt = wtL Host.wt a.hosts + wtL Placed.wt a.pods := rfl; omega)
  have HYH := Lib.hid (show ∀ l ∈ b.hosts, (Host.wt l : Int) ≤ 1048576 by intro l hl; have := wtL_mem (f := Host.wt) hl; have e : b.wt = wtL Host.wt b.hosts + wtL Placed.wt b.pods := rfl; omega)
  have HXP := Lib.hid (show ∀ l ∈ a.pods, (Placed.wt l : Int) ≤ 1048576 by intro l hl; have := wtL_mem (f := Placed.wt) hl; have e : a.wt = wtL Host.wt a.hosts + wtL Placed.wt a.pods := rfl; omega)
  have HYP := Lib.hid (show ∀ l ∈ b.pods, (Placed.wt l : Int) ≤ 1048576 by intro l hl; have := wtL_mem (f := Placed.wt) hl; have e : b.wt = wtL Host.wt b.hosts + wtL Placed.wt b.pods := rfl; omega)
  obtain ⟨Ahosts1, chosts1, Fhosts1, Apods1, cpods1, Fpods1, hck, rfl, hhosts1, hpods1, hnext1, hweightspack1, hweightsspread1, hweightssoft1⟩ := rd_Cluster h
  subst hck
  obtain ⟨Ahosts2, chosts2, Fhosts2, Apods2, cpods2, Fpods2, hck, rfl, hhosts2, hpods2, hnext2, hweightspack2, hweightsspread2, hweightssoft2⟩ := rd_Cluster h'
  subst hck
  clear hwa hwb
  have HPW := Lib.hid (fun (x : Placed) (hx : (Placed.wt x : Int) ≤ 1048576) => (show (Pod.wt x.pod : Int) ≤ 1048576 by have e : Placed.wt x = Pod.wt x.pod + x.on.size := rfl; omega))
  cases e2 : (a.next == b.next) with
  | false =>
    have HF := Lib.hid (show eqCluster a b = false by simp only [eqCluster, e2, Bool.and_false, Bool.false_and, Bool.true_and, Bool.and_true])
    have n2 : (a.next != b.next) = true := by rw [bne, e2]; rfl
    go_enter Try.func29, Try.ntmps29
    go_wp2_with (fail)
    go_ret
    exact ⟨by rw [HF.out]; rfl, (by repeat (first | with_reducible exact ext_refl _ | with_reducible assumption | with_reducible refine ext_alloc ?_ _ | with_reducible refine ext_trans ?_ (by assumption)))⟩
  | true =>
    cases e3 : eqWeights a.weights b.weights with
    | false =>
      have HF := Lib.hid (show eqCluster a b = false by simp only [eqCluster, e2, e3, Bool.and_false, Bool.false_and, Bool.true_and, Bool.and_true])
      have n2 : (a.next != b.next) = false := by rw [bne, e2]; rfl
      have HE3 := Lib.hid e3
      clear e3
      go_enter Try.func29, Try.ntmps29
      go_wp2_with (fail)
      all_goals first
        | (go_ret; exact ⟨by rw [HF.out]; rfl, (by repeat (first | with_reducible exact ext_refl _ | with_reducible assumption | with_reducible refine ext_alloc ?_ _ | with_reducible refine ext_trans ?_ (by assumption)))⟩)
        | (exfalso; have hx := HE3.out; simp [eqWeights, *] at hx; done)
    | true =>
      by_cases hhl : a.hosts.length = b.hosts.length
      · by_cases hpl : a.pods.length = b.pods.length
        · have HF := Lib.hid (show eqCluster a b = (same eqHost a.hosts b.hosts && same eqPlaced a.pods b.pods) by simp only [eqCluster, e2, e3, Bool.and_false, Bool.false_and, Bool.true_and, Bool.and_true])
          have n2 : (a.next != b.next) = false := by rw [bne, e2]; rfl
          have HE3 := Lib.hid e3
          obtain ⟨⟨g1, g2⟩, g3⟩ : (a.weights.pack = b.weights.pack ∧ a.weights.spread = b.weights.spread) ∧ a.weights.soft = b.weights.soft := by have := HE3.out; simpa [eqWeights] using this
          have HLh := Lib.hid hhl
          have HLp := Lib.hid hpl
          have mh : ((a.hosts.length : Int) != (b.hosts.length : Int)) = false := by simp [hhl]
          have mp : ((a.pods.length : Int) != (b.pods.length : Int)) = false := by simp [hpl]
          have hcaph := hhosts1.cap
          have hcapp := hpods1.cap
          unfold maxLen at hcaph hcapp
          clear e3 hhl hpl
          go_enter Try.func29, Try.ntmps29
          go_wp2_with (fail)
          clear g1 g2 g3
          have KA0 := Blk.new w [.slice Ahosts1 a.hosts.length chosts1, .slice Apods1 a.pods.length cpods1, .int .i64 a.next, .int .i64 b.weights.pack, .int .i64 b.weights.spread, .int .i64 b.weights.soft] 50
          have KB0 := Blk.new (w.alloc (.cells ([.slice Ahosts1 a.hosts.length chosts1, .slice Apods1 a.pods.length cpods1, .int .i64 a.next, .int .i64 b.weights.pack, .int .i64 b.weights.spread, .int .i64 b.weights.soft] : List Value).toArray 50)) [.slice Ahosts2 b.hosts.length chosts2, .slice Apods2 b.pods.length cpods2, .int .i64 b.next, .int .i64 b.weights.pack, .int .i64 b.weights.spread, .int .i64 b.weights.soft] 50
          go_loopw [5] (fun i wr => ∃ k : Nat, k ≤ a.hosts.length ∧ i = .int .i64 k ∧ Hid (same eqHost (a.hosts.take k) (b.hosts.take k) = true) ∧ Blk wr w.heap.size [.slice Ahosts1 a.hosts.length chosts1, .slice Apods1 a.pods.length cpods1, .int .i64 a.next, .int .i64 b.weights.pack, .int .i64 b.weights.spread, .int .i64 b.weights.soft] ∧ Blk wr (w.heap.size + 1) [.slice Ahosts2 b.hosts.length chosts2, .slice Apods2 b.pods.length cpods2, .int .i64 b.next, .int .i64 b.weights.pack, .int .i64 b.weights.spread, .int .i64 b.weights.soft] ∧ Below w.heap.size w wr) (fun i _ => a.hosts.length - (intOf i).toNat)
          case atStart => exact ⟨0, Nat.zero_le _, rfl, by show _ = true; simp [same], KA0.ext (ext_alloc (ext_refl _) _), by simpa using KB0, (by repeat (first | with_reducible exact ext_refl _ | with_reducible assumption | with_reducible refine ext_alloc ?_ _ | with_reducible refine ext_trans ?_ (by assumption)))⟩
          case round =>
            clear KA0 KB0
            obtain ⟨k, hk, rfl, Heq, hKA, hKB, hbl⟩ := hrel
            have c0 : wr.cell? ⟨w.heap.size, 0, none⟩ = some (.slice Ahosts1 a.hosts.length chosts1) := hKA.cell (i := 0) rfl
            have c1 : wr.cell? ⟨w.heap.size, 1, none⟩ = some (.slice Apods1 a.pods.length cpods1) := hKA.cell (i := 1) rfl
            have c2 : wr.cell? ⟨w.heap.size, 2, none⟩ = some (.int .i64 a.next) := hKA.cell (i := 2) rfl
            have c3 : wr.cell? ⟨w.heap.size, 3, none⟩ = some (.int .i64 b.weights.pack) := hKA.cell (i := 3) rfl
            have c4 : wr.cell? ⟨w.heap.size, 4, none⟩ = some (.int .i64 b.weights.spread) := hKA.cell (i := 4) rfl
            have c5 : wr.cell? ⟨w.heap.size, 5, none⟩ = some (.int .i64 b.weights.soft) := hKA.cell (i := 5) rfl
            have d0 : wr.cell? ⟨w.heap.size + 1, 0, none⟩ = some (.slice Ahosts2 b.hosts.length chosts2) := hKB.cell (i := 0) rfl
            have d1 : wr.cell? ⟨w.heap.size + 1, 1, none⟩ = some (.slice Apods2 b.pods.length cpods2) := hKB.cell (i := 1) rfl
            have d2 : wr.cell? ⟨w.heap.size + 1, 2, none⟩ = some (.int .i64 b.next) := hKB.cell (i := 2) rfl
            have d3 : wr.cell? ⟨w.heap.size + 1, 3, none⟩ = some (.int .i64 b.weights.pack) := hKB.cell (i := 3) rfl
            have d4 : wr.cell? ⟨w.heap.size + 1, 4, none⟩ = some (.int .i64 b.weights.spread) := hKB.cell (i := 4) rfl
            have d5 : wr.cell? ⟨w.heap.size + 1, 5, none⟩ = some (.int .i64 b.weights.soft) := hKB.cell (i := 5) rfl
            have hz0 : w.heap.size < wr.heap.size := hKA.lt
            have hz1 : w.heap.size + 1 < wr.heap.size := hKB.lt
            by_cases hlt : k < a.hosts.length
            · obtain ⟨q, o, ck, Fk, hA1, hbF, hbs, hr, hsub, hc⟩ := (Sl.ext (w' := wr) (A := Ahosts1) (c := chosts1) hhosts1 hbl).get hlt
              have hlt' : k < b.hosts.length := by rw [← HLh.out]; exact hlt
              obtain ⟨q', o', ck', Fk', hA2, hbF', hbs', hr', hsub', hc'⟩ := (Sl.ext (w' := wr) (A := Ahosts2) (c := chosts2) hhosts2 hbl).get hlt'
              subst hA1 hA2
              obtain ⟨Alabels3, clabels3, Flabels3, Ataints3, ctaints3, Ftaints3, hck, rfl, hname3, hlabels3, hcpu3, hmem3, hslots3, htaints3⟩ := rd_Host hr
              subst hck
              obtain ⟨Alabels4, clabels4, Flabels4, Ataints4, ctaints4, Ftaints4, hck, rfl, hname4, hlabels4, hcpu4, hmem4, hslots4, htaints4⟩ := rd_Host hr'
              subst hck
              have s0 : wr.cell? ⟨q, o + k * 6, none⟩ = some (.string a.hosts[k].name) := by exact hc 0 _ rfl
              have s1 : wr.cell? ⟨q, o + k * 6 + 1, none⟩ = some (.slice Alabels3 a.hosts[k].labels.length clabels3) := by rw [Nat.add_assoc]; exact hc 1 _ rfl
              have s2 : wr.cell? ⟨q, o + k * 6 + 2, none⟩ = some (.int .i64 a.hosts[k].cpu) := by rw [Nat.add_assoc]; exact hc 2 _ rfl
              have s3 : wr.cell? ⟨q, o + k * 6 + 3, none⟩ = some (.int .i64 a.hosts[k].mem) := by rw [Nat.add_assoc]; exact hc 3 _ rfl
              have s4 : wr.cell? ⟨q, o + k * 6 + 4, none⟩ = some (.int .i64 a.hosts[k].slots) := by rw [Nat.add_assoc]; exact hc 4 _ rfl
              have s5 : wr.cell? ⟨q, o + k * 6 + 5, none⟩ = some (.slice Ataints3 a.hosts[k].taints.length ctaints3) := by rw [Nat.add_assoc]; exact hc 5 _ rfl
              have t0 : wr.cell? ⟨q', o' + k * 6, none⟩ = some (.string b.hosts[k].name) := by exact hc' 0 _ rfl
              have t1 : wr.cell? ⟨q', o' + k * 6 + 1, none⟩ = some (.slice Alabels4 b.hosts[k].labels.length clabels4) := by rw [Nat.add_assoc]; exact hc' 1 _ rfl
              have t2 : wr.cell? ⟨q', o' + k * 6 + 2, none⟩ = some (.int .i64 b.hosts[k].cpu) := by rw [Nat.add_assoc]; exact hc' 2 _ rfl
              have t3 : wr.cell? ⟨q', o' + k * 6 + 3, none⟩ = some (.int .i64 b.hosts[k].mem) := by rw [Nat.add_assoc]; exact hc' 3 _ rfl
              have t4 : wr.cell? ⟨q', o' + k * 6 + 4, none⟩ = some (.int .i64 b.hosts[k].slots) := by rw [Nat.add_assoc]; exact hc' 4 _ rfl
              have t5 : wr.cell? ⟨q', o' + k * 6 + 5, none⟩ = some (.slice Ataints4 b.hosts[k].taints.length ctaints4) := by rw [Nat.add_assoc]; exact hc' 5 _ rfl
              clear hc hc'
              cases he : eqHost a.hosts[k] b.hosts[k] with
              | false =>
                have HE := Lib.hid he
                have HS := Lib.hid (same_drop (k + 1) (by rw [same_take hlt hlt', Heq.out, he]; rfl) HLh.out)
                clear he
                go_wp2_with fail
                refine wp_region_grow wr (by kernel_rfl) (by kernel_rfl) (by first | exact ext_refl _ | assumption) ?_
                repeat (first
                  | (apply inText_skip
                     case hw => rfl
                     simp only [Act.put, List.setIfInBounds_toArray, List.set_cons_zero, List.set_cons_succ])
                  | (apply inText_step
                     case hw => rfl
                     case h =>
                       intro wq hq
                       have hcq := (cls_cell hq).1
                       have hfq := (cls_cell hq).2
                       go_simp
                       first
                         | exact ⟨hq, rfl⟩
                         | exact ⟨cls_alloc hq _, rfl⟩
                         | ((refine (SameHost_spec a.hosts[k] b.hosts[k] _ _ _ _ _ (rd_extT hr hq.out) (rd_extT hr' hq.out) (HXH.out _ (List.getElem_mem ..)) (HYH.out _ (List.getElem_mem ..))).mono ?_; rw [HE.out]; rintro e wz ⟨rfl, hbz⟩; exact ⟨rfl, cls_trans hq hbz⟩))
                         | (simp only [↓IntWalk.iteOmega]; exact ⟨hq, rfl⟩)
                     simp only [Act.put, List.setIfInBounds_toArray, List.set_cons_zero, List.set_cons_succ]))
                refine inText_nil ?_
                intro wn hn
                replace hn := hn.out
                go_wp2
                go_ret
                exact ⟨by rw [HF.out, HS.out]; rfl, ext_trans hbl hn⟩
              | true =>
                have HE := Lib.hid he
                have HS := Lib.hid (show same eqHost (a.hosts.take (k + 1)) (b.hosts.take (k + 1)) = true by rw [same_take hlt hlt', Heq.out, he]; rfl)
                clear he
                go_wp2_with fail
                refine wp_region_grow wr (by kernel_rfl) (by kernel_rfl) (by first | exact ext_refl _ | assumption) ?_
                repeat (first
                  | (apply inText_skip
                     case hw => rfl
                     simp only [Act.put, List.setIfInBounds_toArray, List.set_cons_zero, List.set_cons_succ])
                  | (apply inText_step
                     case hw => rfl
                     case h =>
                       intro wq hq
                       have hcq := (cls_cell hq).1
                       have hfq := (cls_cell hq).2
                       go_simp
                       first
                         | exact ⟨hq, rfl⟩
                         | exact ⟨cls_alloc hq _, rfl⟩
                         | ((refine (SameHost_spec a.hosts[k] b.hosts[k] _ _ _ _ _ (rd_extT hr hq.out) (rd_extT hr' hq.out) (HXH.out _ (List.getElem_mem ..)) (HYH.out _ (List.getElem_mem ..))).mono ?_; rw [HE.out]; rintro e wz ⟨rfl, hbz⟩; exact ⟨rfl, cls_trans hq hbz⟩))
                         | (simp only [↓IntWalk.iteOmega]; exact ⟨hq, rfl⟩)
                     simp only [Act.put, List.setIfInBounds_toArray, List.set_cons_zero, List.set_cons_succ]))
                refine inText_nil ?_
                intro wn hn
                replace hn := hn.out
                go_wp2
                exact ⟨⟨k + 1, by omega, by go_num, HS, hKA.ext hn, hKB.ext hn, ext_trans hbl hn⟩, by simp [intOf]; omega⟩
            · have hkl : k = a.hosts.length := by omega
              subst hkl
              have h1 := Heq.out
              rw [List.take_length, HLh.out, List.take_length] at h1
              clear Heq
              have HF2 := Lib.hid (show eqCluster a b = same eqPlaced a.pods b.pods by rw [HF.out, h1]; rfl)
              clear h1
              obtain ⟨wo, hwo⟩ : ∃ wo, wo = wr := ⟨_, rfl⟩
              subst hwo
              go_wp2_with fail
              go_loopw [6] (fun i wr => ∃ k : Nat, k ≤ a.pods.length ∧ i = .int .i64 k ∧ Hid (same eqPlaced (a.pods.take k) (b.pods.take k) = true) ∧ Blk wr w.heap.size [.slice Ahosts1 a.hosts.length chosts1, .slice Apods1 a.pods.length cpods1, .int .i64 a.next, .int .i64 b.weights.pack, .int .i64 b.weights.spread, .int .i64 b.weights.soft] ∧ Blk wr (w.heap.size + 1) [.slice Ahosts2 b.hosts.length chosts2, .slice Apods2 b.pods.length cpods2, .int .i64 b.next, .int .i64 b.weights.pack, .int .i64 b.weights.spread, .int .i64 b.weights.soft] ∧ Below w.heap.size w wr) (fun i _ => a.pods.length - (intOf i).toNat)
              case atStart => exact ⟨0, Nat.zero_le _, rfl, by show _ = true; simp [same], hKA, hKB, hbl⟩
              case round =>
                clear hKA hKB hbl hz0 hz1 c0 d0 c1 d1 c2 d2 c3 d3 c4 d4 c5 d5
                obtain ⟨k, hk, rfl, Heq, hKA, hKB, hbl⟩ := hrel
                have c0 : wr.cell? ⟨w.heap.size, 0, none⟩ = some (.slice Ahosts1 a.hosts.length chosts1) := hKA.cell (i := 0) rfl
                have c1 : wr.cell? ⟨w.heap.size, 1, none⟩ = some (.slice Apods1 a.pods.length cpods1) := hKA.cell (i := 1) rfl
                have c2 : wr.cell? ⟨w.heap.size, 2, none⟩ = some (.int .i64 a.next) := hKA.cell (i := 2) rfl
                have c3 : wr.cell? ⟨w.heap.size, 3, none⟩ = some (.int .i64 b.weights.pack) := hKA.cell (i := 3) rfl
                have c4 : wr.cell? ⟨w.heap.size, 4, none⟩ = some (.int .i64 b.weights.spread) := hKA.cell (i := 4) rfl
                have c5 : wr.cell? ⟨w.heap.size, 5, none⟩ = some (.int .i64 b.weights.soft) := hKA.cell (i := 5) rfl
                have d0 : wr.cell? ⟨w.heap.size + 1, 0, none⟩ = some (.slice Ahosts2 b.hosts.length chosts2) := hKB.cell (i := 0) rfl
                have d1 : wr.cell? ⟨w.heap.size + 1, 1, none⟩ = some (.slice Apods2 b.pods.length cpods2) := hKB.cell (i := 1) rfl
                have d2 : wr.cell? ⟨w.heap.size + 1, 2, none⟩ = some (.int .i64 b.next) := hKB.cell (i := 2) rfl
                have d3 : wr.cell? ⟨w.heap.size + 1, 3, none⟩ = some (.int .i64 b.weights.pack) := hKB.cell (i := 3) rfl
                have d4 : wr.cell? ⟨w.heap.size + 1, 4, none⟩ = some (.int .i64 b.weights.spread) := hKB.cell (i := 4) rfl
                have d5 : wr.cell? ⟨w.heap.size + 1, 5, none⟩ = some (.int .i64 b.weights.soft) := hKB.cell (i := 5) rfl
                have hz0 : w.heap.size < wr.heap.size := hKA.lt
                have hz1 : w.heap.size + 1 < wr.heap.size := hKB.lt
                by_cases hlt : k < a.pods.length
                · obtain ⟨q, o, ck, Fk, hA1, hbF, hbs, hr, hsub, hc⟩ := (Sl.ext (w' := wr) (A := Apods1) (c := cpods1) hpods1 hbl).get hlt
                  have hlt' : k < b.pods.length := by rw [← HLp.out]; exact hlt
                  obtain ⟨q', o', ck', Fk', hA2, hbF', hbs', hr', hsub', hc'⟩ := (Sl.ext (w' := wr) (A := Apods2) (c := cpods2) hpods2 hbl).get hlt'
                  subst hA1 hA2
                  have hr4 := hr
                  have hr5 := hr'
                  obtain ⟨Apodlabels3, cpodlabels3, Fpodlabels3, Apodneeds3, cpodneeds3, Fpodneeds3, Apodtolerances3, cpodtolerances3, Fpodtolerances3, hck, rfl, hpodname3, hpodlabels3, hpodcpu3, hpodmem3, hpodrank3, hpodneeds3, hpodtolerances3, hon3, hseq3⟩ := rd_Placed hr
                  subst hck
                  obtain ⟨Apodlabels4, cpodlabels4, Fpodlabels4, Apodneeds4, cpodneeds4, Fpodneeds4, Apodtolerances4, cpodtolerances4, Fpodtolerances4, hck, rfl, hpodname4, hpodlabels4, hpodcpu4, hpodmem4, hpodrank4, hpodneeds4, hpodtolerances4, hon4, hseq4⟩ := rd_Placed hr'
                  subst hck
                  obtain ⟨dpod, don, Gpod3, Gon, hdc, hdG, hrpod, _⟩ := hr4
                  have hpa : rd wr a.pods[k].pod [.string a.pods[k].pod.name, .slice Apodlabels3 a.pods[k].pod.labels.length cpodlabels3, .int .i64 a.pods[k].pod.cpu, .int .i64 a.pods[k].pod.mem, .int .i64 a.pods[k].pod.rank, .slice Apodneeds3 a.pods[k].pod.needs.length cpodneeds3, .slice Apodtolerances3 a.pods[k].pod.tolerances.length cpodtolerances3] Gpod3 := by
                    have hl7 : dpod.length = 7 := Dat.len hrpod
                    have h2 : List.take 7 (dpod ++ don) = dpod := by rw [List.take_append_of_le_length (by omega), List.take_of_length_le (by omega)]
                    have h3 := congrArg (List.take 7) hdc
                    rw [h2] at h3
                    rw [← h3] at hrpod
                    exact hrpod
                  clear hdc hdG hrpod
                  obtain ⟨dpod, don, Gpod4, Gon, hdc, hdG, hrpod, _⟩ := hr5
                  have hpb : rd wr b.pods[k].pod [.string b.pods[k].pod.name, .slice Apodlabels4 b.pods[k].pod.labels.length cpodlabels4, .int .i64 b.pods[k].pod.cpu, .int .i64 b.pods[k].pod.mem, .int .i64 b.pods[k].pod.rank, .slice Apodneeds4 b.pods[k].pod.needs.length cpodneeds4, .slice Apodtolerances4 b.pods[k].pod.tolerances.length cpodtolerances4] Gpod4 := by
                    have hl7 : dpod.length = 7 := Dat.len hrpod
                    have h2 : List.take 7 (dpod ++ don) = dpod := by rw [List.take_append_of_le_length (by omega), List.take_of_length_le (by omega)]
                    have h3 := congrArg (List.take 7) hdc
                    rw [h2] at h3
                    rw [← h3] at hrpod
                    exact hrpod
                  clear hdc hdG hrpod
                  have HPA := Lib.hid hpa
                  have HPB := Lib.hid hpb
                  clear hpa hpb
                  have s0 : wr.cell? ⟨q, o + k * 9, none⟩ = some (.string a.pods[k].pod.name) := by exact hc 0 _ rfl
                  have s1 : wr.cell? ⟨q, o + k * 9 + 1, none⟩ = some (.slice Apodlabels3 a.pods[k].pod.labels.length cpodlabels3) := by rw [Nat.add_assoc]; exact hc 1 _ rfl
                  have s2 : wr.cell? ⟨q, o + k * 9 + 2, none⟩ = some (.int .i64 a.pods[k].pod.cpu) := by rw [Nat.add_assoc]; exact hc 2 _ rfl
                  have s3 : wr.cell? ⟨q, o + k * 9 + 3, none⟩ = some (.int .i64 a.pods[k].pod.mem) := by rw [Nat.add_assoc]; exact hc 3 _ rfl
                  have s4 : wr.cell? ⟨q, o + k * 9 + 4, none⟩ = some (.int .i64 a.pods[k].pod.rank) := by rw [Nat.add_assoc]; exact hc 4 _ rfl
                  have s5 : wr.cell? ⟨q, o + k * 9 + 5, none⟩ = some (.slice Apodneeds3 a.pods[k].pod.needs.length cpodneeds3) := by rw [Nat.add_assoc]; exact hc 5 _ rfl
                  have s6 : wr.cell? ⟨q, o + k * 9 + 6, none⟩ = some (.slice Apodtolerances3 a.pods[k].pod.tolerances.length cpodtolerances3) := by rw [Nat.add_assoc]; exact hc 6 _ rfl
                  have s7 : wr.cell? ⟨q, o + k * 9 + 7, none⟩ = some (.string a.pods[k].on) := by rw [Nat.add_assoc]; exact hc 7 _ rfl
                  have s8 : wr.cell? ⟨q, o + k * 9 + 8, none⟩ = some (.int .i64 a.pods[k].seq) := by rw [Nat.add_assoc]; exact hc 8 _ rfl
                  have t0 : wr.cell? ⟨q', o' + k * 9, none⟩ = some (.string b.pods[k].pod.name) := by exact hc' 0 _ rfl
                  have t1 : wr.cell? ⟨q', o' + k * 9 + 1, none⟩ = some (.slice Apodlabels4 b.pods[k].pod.labels.length cpodlabels4) := by rw [Nat.add_assoc]; exact hc' 1 _ rfl
                  have t2 : wr.cell? ⟨q', o' + k * 9 + 2, none⟩ = some (.int .i64 b.pods[k].pod.cpu) := by rw [Nat.add_assoc]; exact hc' 2 _ rfl
                  have t3 : wr.cell? ⟨q', o' + k * 9 + 3, none⟩ = some (.int .i64 b.pods[k].pod.mem) := by rw [Nat.add_assoc]; exact hc' 3 _ rfl
                  have t4 : wr.cell? ⟨q', o' + k * 9 + 4, none⟩ = some (.int .i64 b.pods[k].pod.rank) := by rw [Nat.add_assoc]; exact hc' 4 _ rfl
                  have t5 : wr.cell? ⟨q', o' + k * 9 + 5, none⟩ = some (.slice Apodneeds4 b.pods[k].pod.needs.length cpodneeds4) := by rw [Nat.add_assoc]; exact hc' 5 _ rfl
                  have t6 : wr.cell? ⟨q', o' + k * 9 + 6, none⟩ = some (.slice Apodtolerances4 b.pods[k].pod.tolerances.length cpodtolerances4) := by rw [Nat.add_assoc]; exact hc' 6 _ rfl
                  have t7 : wr.cell? ⟨q', o' + k * 9 + 7, none⟩ = some (.string b.pods[k].on) := by rw [Nat.add_assoc]; exact hc' 7 _ rfl
                  have t8 : wr.cell? ⟨q', o' + k * 9 + 8, none⟩ = some (.int .i64 b.pods[k].seq) := by rw [Nat.add_assoc]; exact hc' 8 _ rfl
                  clear hc hc'
                  cases p0 : (a.pods[k].on.toList == b.pods[k].on.toList) with
                  | false =>
                    have he : eqPlaced a.pods[k] b.pods[k] = false := by simp only [eqPlaced, p0, Bool.and_false, Bool.false_and, Bool.true_and, Bool.and_true]
                    have n0' : (a.pods[k].on.toList != b.pods[k].on.toList) = true := by rw [bne, p0]; rfl
                    have HS := Lib.hid (same_drop (k + 1) (by rw [same_take hlt hlt', Heq.out, he]; rfl) HLp.out)
                    clear he
                    go_wp2_with (fail)
                    go_ret
                    exact ⟨by rw [HF2.out, HS.out]; rfl, (by repeat (first | with_reducible exact ext_refl _ | with_reducible assumption | with_reducible refine ext_alloc ?_ _ | with_reducible refine ext_trans ?_ (by assumption)))⟩
                  | true =>
                    cases p1 : (a.pods[k].seq == b.pods[k].seq) with
                    | false =>
                      have he : eqPlaced a.pods[k] b.pods[k] = false := by simp only [eqPlaced, p0, p1, Bool.and_false, Bool.false_and, Bool.true_and, Bool.and_true]
                      have n0' : (a.pods[k].on.toList != b.pods[k].on.toList) = false := by rw [bne, p0]; rfl
                      have n1' : (a.pods[k].seq != b.pods[k].seq) = true := by rw [bne, p1]; rfl
                      have HS := Lib.hid (same_drop (k + 1) (by rw [same_take hlt hlt', Heq.out, he]; rfl) HLp.out)
                      clear he
                      go_wp2_with (fail)
                      go_ret
                      exact ⟨by rw [HF2.out, HS.out]; rfl, (by repeat (first | with_reducible exact ext_refl _ | with_reducible assumption | with_reducible refine ext_alloc ?_ _ | with_reducible refine ext_trans ?_ (by assumption)))⟩
                    | true =>
                      cases p2 : eqPod a.pods[k].pod b.pods[k].pod with
                      | false =>
                        have he : eqPlaced a.pods[k] b.pods[k] = false := by simp only [eqPlaced, p0, p1, p2, Bool.and_false, Bool.false_and, Bool.true_and, Bool.and_true]
                        have n0' : (a.pods[k].on.toList != b.pods[k].on.toList) = false := by rw [bne, p0]; rfl
                        have n1' : (a.pods[k].seq != b.pods[k].seq) = false := by rw [bne, p1]; rfl
                        have HS := Lib.hid (same_drop (k + 1) (by rw [same_take hlt hlt', Heq.out, he]; rfl) HLp.out)
                        clear he
                        have HE2 := Lib.hid p2
                        clear p2
                        go_wp2_with fail
                        refine (SamePod_spec a.pods[k].pod b.pods[k].pod _ _ _ _ _ (rd_extT HPA.out (by repeat (first | with_reducible exact ext_refl _ | with_reducible assumption | with_reducible refine ext_alloc ?_ _ | with_reducible refine ext_trans ?_ (by assumption)))) (rd_extT HPB.out (by repeat (first | with_reducible exact ext_refl _ | with_reducible assumption | with_reducible refine ext_alloc ?_ _ | with_reducible refine ext_trans ?_ (by assumption)))) (HPW.out _ (HXP.out _ (List.getElem_mem ..))) (HPW.out _ (HYP.out _ (List.getElem_mem ..)))).mono ?_
                        rw [HE2.out]
                        rintro e w2 ⟨rfl, hb2⟩
                        go_wp2
                        go_ret
                        exact ⟨by rw [HF2.out, HS.out]; rfl, (by repeat (first | with_reducible exact ext_refl _ | with_reducible assumption | with_reducible refine ext_alloc ?_ _ | with_reducible refine ext_trans ?_ (by assumption)))⟩
                      | true =>
                        have he : eqPlaced a.pods[k] b.pods[k] = true := by simp only [eqPlaced, p0, p1, p2, Bool.and_false, Bool.false_and, Bool.true_and, Bool.and_true]
                        have n0' : (a.pods[k].on.toList != b.pods[k].on.toList) = false := by rw [bne, p0]; rfl
                        have n1' : (a.pods[k].seq != b.pods[k].seq) = false := by rw [bne, p1]; rfl
                        have HS := Lib.hid (show same eqPlaced (a.pods.take (k + 1)) (b.pods.take (k + 1)) = true by rw [same_take hlt hlt', Heq.out, he]; rfl)
                        clear he
                        have HE2 := Lib.hid p2
                        clear p2
                        go_wp2_with fail
                        refine (SamePod_spec a.pods[k].pod b.pods[k].pod _ _ _ _ _ (rd_extT HPA.out (by repeat (first | with_reducible exact ext_refl _ | with_reducible assumption | with_reducible refine ext_alloc ?_ _ | with_reducible refine ext_trans ?_ (by assumption)))) (rd_extT HPB.out (by repeat (first | with_reducible exact ext_refl _ | with_reducible assumption | with_reducible refine ext_alloc ?_ _ | with_reducible refine ext_trans ?_ (by assumption)))) (HPW.out _ (HXP.out _ (List.getElem_mem ..))) (HPW.out _ (HYP.out _ (List.getElem_mem ..)))).mono ?_
                        rw [HE2.out]
                        rintro e w2 ⟨rfl, hb2⟩
                        go_wp2
                        first
                          | exact ⟨⟨k + 1, by omega, by go_num, HS, hKA.ext (by repeat (first | with_reducible exact ext_refl _ | with_reducible assumption | with_reducible refine ext_alloc ?_ _ | with_reducible refine ext_trans ?_ (by assumption))), hKB.ext (by repeat (first | with_reducible exact ext_refl _ | with_reducible assumption | with_reducible refine ext_alloc ?_ _ | with_reducible refine ext_trans ?_ (by assumption))), (by repeat (first | with_reducible exact ext_refl _ | with_reducible assumption | with_reducible refine ext_alloc ?_ _ | with_reducible refine ext_trans ?_ (by assumption)))⟩, by simp [intOf]; omega⟩
                          | (refine ⟨?_, by simp [intOf]; omega⟩
                             repeat apply Exists.intro
                             exact ⟨⟨k + 1, by omega, by go_num, HS, hKA.ext (by repeat (first | with_reducible exact ext_refl _ | with_reducible assumption | with_reducible refine ext_alloc ?_ _ | with_reducible refine ext_trans ?_ (by assumption))), hKB.ext (by repeat (first | with_reducible exact ext_refl _ | with_reducible assumption | with_reducible refine ext_alloc ?_ _ | with_reducible refine ext_trans ?_ (by assumption))), (by repeat (first | with_reducible exact ext_refl _ | with_reducible assumption | with_reducible refine ext_alloc ?_ _ | with_reducible refine ext_trans ?_ (by assumption)))⟩, rfl⟩)
                · have hkl : k = a.pods.length := by omega
                  have HK := Lib.hid hkl
                  clear hkl
                  go_wp2
                  go_ret
                  have h1 := Heq.out
                  rw [HK.out, List.take_length, HLp.out, List.take_length] at h1
                  exact ⟨by rw [HF2.out, h1]; rfl, hbl⟩
        · have n2 : (a.next != b.next) = false := by rw [bne, e2]; rfl
          have mh : ((a.hosts.length : Int) != (b.hosts.length : Int)) = false := by simp [hhl]
          have HE3 := Lib.hid e3
          obtain ⟨⟨g1, g2⟩, g3⟩ : (a.weights.pack = b.weights.pack ∧ a.weights.spread = b.weights.spread) ∧ a.weights.soft = b.weights.soft := by have := HE3.out; simpa [eqWeights] using this
          clear e2 e3 hhl
          have hs := same_len (eq := eqPlaced) hpl
          have HF := Lib.hid (show eqCluster a b = false by simp only [eqCluster, hs, Bool.and_false, Bool.false_and, Bool.true_and, Bool.and_true])
          have mp : ((a.pods.length : Int) != (b.pods.length : Int)) = true := by simp; omega
          clear hs hpl
          go_enter Try.func29, Try.ntmps29
          go_wp2_with (fail)
          go_ret
          exact ⟨by rw [HF.out]; rfl, (by repeat (first | with_reducible exact ext_refl _ | with_reducible assumption | with_reducible refine ext_alloc ?_ _ | with_reducible refine ext_trans ?_ (by assumption)))⟩
      · have n2 : (a.next != b.next) = false := by rw [bne, e2]; rfl
        have HE3 := Lib.hid e3
        obtain ⟨⟨g1, g2⟩, g3⟩ : (a.weights.pack = b.weights.pack ∧ a.weights.spread = b.weights.spread) ∧ a.weights.soft = b.weights.soft := by have := HE3.out; simpa [eqWeights] using this
        clear e2 e3
        have hs := same_len (eq := eqHost) hhl
        have HF := Lib.hid (show eqCluster a b = false by simp only [eqCluster, hs, Bool.and_false, Bool.false_and, Bool.true_and, Bool.and_true])
        have mh : ((a.hosts.length : Int) != (b.hosts.length : Int)) = true := by simp; omega
        clear hs hhl
        go_enter Try.func29, Try.ntmps29
        go_wp2_with (fail)
        go_ret
        exact ⟨by rw [HF.out]; rfl, (by repeat (first | with_reducible exact ext_refl _ | with_reducible assumption | with_reducible refine ext_alloc ?_ _ | with_reducible refine ext_trans ?_ (by assumption)))⟩

end Go.Proofs.Ytaljcihfkblncaa
