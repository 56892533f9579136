/- HostAt and PodAt, of the program and of the reference: the first place at which a name stands. -/
import Derived.Test.YtjoclfenghenjaaGreatEq
namespace Go.Proofs.YtjoclfenghenjaaGreat
open Go.ChangeShapes Go.WideShapes Go.ChangeAt Go.RowKit
set_option linter.unusedVariables false
set_option linter.unusedSimpArgs false

/-- the first place, or -1 -/
def idxI {α : Type} (p : α → Bool) : List α → Int
  | [] => -1
  | x :: xs => if p x then 0 else if idxI p xs < 0 then -1 else idxI p xs + 1
theorem idxI_none {α : Type} {p : α → Bool} : ∀ {xs : List α}, (∀ x ∈ xs, p x = false) → idxI p xs = -1
  | [], _ => rfl
  | x :: xs, h => by
    have h1 := h x (List.mem_cons_self ..)
    have h2 := idxI_none (xs := xs) fun y hy => h y (List.mem_cons_of_mem _ hy)
    simp [idxI, h1, h2]
theorem idxI_found {α : Type} {p : α → Bool} : ∀ {xs : List α} {k : Nat} (hk : k < xs.length), (∀ x ∈ xs.take k, p x = false) → p xs[k] = true → idxI p xs = k
  | x :: xs, 0, _, _, h => by simp at h; simp [idxI, h]
  | x :: xs, k + 1, hk, hb, h => by
    have h1 := hb x (by simp)
    have h2 := idxI_found (xs := xs) (k := k) (by simpa using hk) (fun y hy => hb y (by simp [hy])) (by simpa using h)
    simp only [idxI, h1, h2]
    rw [if_neg (by simp), if_neg (by omega)]
    omega
theorem take_none {α : Type} {p : α → Bool} {xs : List α} {k : Nat} (hk : k < xs.length) (h : ∀ x ∈ xs.take k, p x = false) (hx : p xs[k] = false) : ∀ x ∈ xs.take (k + 1), p x = false := by
  rw [List.take_succ_eq_append_getElem hk]
  intro x hm
  rcases List.mem_append.1 hm with hm | hm
  · exact h x hm
  · simp at hm; subst hm; exact hx
theorem idxI_lt {α : Type} {p : α → Bool} : ∀ (xs : List α), -1 ≤ idxI p xs ∧ idxI p xs < xs.length
  | [] => by simp [idxI]
  | x :: xs => by
    have := idxI_lt (p := p) xs
    simp only [idxI, List.length_cons]
    split
    · omega
    · split <;> omega

def hostatP (nm : ByteArray) (h : Host) : Bool := eqStr h.name nm
theorem HostAt_clo (x : Host) (cs : List Value) (F : List Nat) (nm : ByteArray) (q : Nat) (w : World) (h : rd w x cs F) (hq : w.cell? ⟨q, 0, none⟩ = some (.string nm)) (hql : q < w.heap.size) :
    Calls Tryz.prog 100 #[.agg cs.toArray, .pointer (some ⟨q, 0, none⟩)] w fun e w' => e = .returned (.bool (hostatP nm x)) ∧ Below w.heap.size w w' := by
  obtain ⟨_, _, _, _, rfl, rfl, ⟨rfl, rfl, hname⟩, _, _, _, _, rfl, rfl, hlabels, _, _, _, _, rfl, rfl, ⟨rfl, rfl, hcpu⟩, _, _, _, _, rfl, rfl, ⟨rfl, rfl, hmem⟩, _, _, _, _, rfl, rfl, ⟨rfl, rfl, hslots⟩, htaints⟩ := h
  obtain ⟨Alabels, clabels, rfl, hlabels⟩ := rd_list hlabels
  obtain ⟨Ataints, ctaints, rfl, htaints⟩ := rd_list htaints
  replace hname := sz63 (s := x.name) hname
  replace hlabels : Sl _ x.labels Alabels clabels _ := hlabels
  replace hcpu : I64 x.cpu := hcpu
  replace hmem : I64 x.mem := hmem
  replace hslots : I64 x.slots := hslots
  replace htaints : Sl _ x.taints Ataints ctaints _ := htaints
  simp only [List.cons_append, List.nil_append]
  go_enter Tryz.func100, Tryz.ntmps100
  go_wp2
  go_ret
  exact ⟨rfl, ext_alloc (ext_refl _) _⟩
set_option maxHeartbeats 1000000 in
theorem HostAt_index (xs : List Host) (A : Option Addr) (c : Nat) (F : List Nat) (nm : ByteArray) (q : Nat) (w : World) (h : Sl w xs A c F) (hq : w.cell? ⟨q, 0, none⟩ = some (.string nm)) (hql : q < w.heap.size) (hl : (xs.length : Int) ≤ 1048576) :
    Calls Tryz.prog 99 #[.slice A xs.length c, .func (.func 100) #[] #[.pointer (some ⟨q, 0, none⟩)]] w fun e w' => e = .returned (.int .i64 (idxI (hostatP nm) xs)) ∧ Below w.heap.size w w' := by
  go_enter Tryz.func99, Tryz.ntmps99
  go_wp2
  go_loopw [5, 8] (fun _ i wr => ∃ k : Nat, k ≤ xs.length ∧ i = .int .i64 k ∧ Hid (∀ x ∈ xs.take k, hostatP nm x = false) ∧ Below w.heap.size w wr) (fun _ i _ => xs.length - (intOf i).toNat)
  case atStart => exact ⟨0, Nat.zero_le _, rfl, by show ∀ _, _; simp, ext_refl _⟩
  case round =>
    obtain ⟨k, hk, rfl, Hn, hbl⟩ := hrel
    by_cases hlt : k < xs.length
    · obtain ⟨b, o, ck, Fk, rfl, hbF, hbs, hr, hsub, hc⟩ := (h.ext hbl).get hlt
      obtain ⟨Alabels, clabels, Flabels, Ataints, ctaints, Ftaints, hck, rfl, hname, hlabels, hcpu, hmem, hslots, htaints⟩ := rd_Host hr
      subst hck
      have q0 : wr.cell? ⟨b, o + k * 6, none⟩ = some (.string xs[k].name) := by exact hc 0 _ rfl
      have q1 : wr.cell? ⟨b, o + k * 6 + 1, none⟩ = some (.slice Alabels xs[k].labels.length clabels) := by rw [Nat.add_assoc]; exact hc 1 _ rfl
      have q2 : wr.cell? ⟨b, o + k * 6 + 2, none⟩ = some (.int .i64 xs[k].cpu) := by rw [Nat.add_assoc]; exact hc 2 _ rfl
      have q3 : wr.cell? ⟨b, o + k * 6 + 3, none⟩ = some (.int .i64 xs[k].mem) := by rw [Nat.add_assoc]; exact hc 3 _ rfl
      have q4 : wr.cell? ⟨b, o + k * 6 + 4, none⟩ = some (.int .i64 xs[k].slots) := by rw [Nat.add_assoc]; exact hc 4 _ rfl
      have q5 : wr.cell? ⟨b, o + k * 6 + 5, none⟩ = some (.slice Ataints xs[k].taints.length ctaints) := by rw [Nat.add_assoc]; exact hc 5 _ rfl
      clear hc
      have hqr : wr.cell? ⟨q, 0, none⟩ = some (.string nm) := by rw [← hq]; exact hbl.cell (p := ⟨q, 0, none⟩) hql
      have hqlr : q < wr.heap.size := Nat.lt_of_lt_of_le hql hbl.size
      cases hp : hostatP nm xs[k] with
      | false =>
        have HP := Lib.hid hp
        clear hp
        go_wp2_with (go_at_call 100; refine (HostAt_clo xs[k] _ _ nm q _ hr hqr hqlr).mono ?_; rw [HP.out]; rintro e w2 ⟨rfl, hb2⟩)
        exact ⟨⟨k + 1, by omega, by go_num, take_none hlt Hn.out HP.out, ext_trans hbl hb2⟩, by simp [intOf]; omega⟩
      | true =>
        have HP := Lib.hid hp
        clear hp
        have HI := Lib.hid (idxI_found hlt Hn.out HP.out)
        go_wp2_with (go_at_call 100; refine (HostAt_clo xs[k] _ _ nm q _ hr hqr hqlr).mono ?_; rw [HP.out]; rintro e w2 ⟨rfl, hb2⟩)
        go_ret
        exact ⟨by rw [HI.out]; rfl, ext_trans hbl hb2⟩
    · have hkl : k = xs.length := by omega
      subst hkl
      have hn := Hn.out
      rw [List.take_length] at hn
      have HI := Lib.hid (idxI_none hn)
      clear hn
      go_wp2
      go_ret
      exact ⟨by rw [HI.out]; rfl, hbl⟩
theorem HostAt_impl (x : Cluster) (cs : List Value) (F : List Nat) (nm : ByteArray) (w : World) (h : rd w x cs F) (hl : (x.hosts.length : Int) ≤ 1048576) :
    Calls Tryz.prog 49 #[.agg cs.toArray, .string nm] w fun e w' => e = .returned (.int .i64 (idxI (hostatP nm) x.hosts)) ∧ Below w.heap.size w w' := by
  obtain ⟨_, _, _, _, rfl, rfl, hhosts, _, _, _, _, rfl, rfl, hpods, _, _, _, _, rfl, rfl, ⟨rfl, rfl, hnext⟩, hweights⟩ := h
  obtain ⟨Ahosts, chosts, rfl, hhosts⟩ := rd_list hhosts
  obtain ⟨Apods, cpods, rfl, hpods⟩ := rd_list hpods
  have hrweights := hweights
  obtain ⟨rfl, rfl, hweightspack, hweightsspread, hweightssoft⟩ := rd_Weights hweights
  replace hhosts : Sl _ x.hosts Ahosts chosts _ := hhosts
  replace hpods : Sl _ x.pods Apods cpods _ := hpods
  replace hnext : I64 x.next := hnext
  replace hweightspack : I64 x.weights.pack := hweightspack
  replace hweightsspread : I64 x.weights.spread := hweightsspread
  replace hweightssoft : I64 x.weights.soft := hweightssoft
  replace hrweights : rd _ x.weights [.int .i64 x.weights.pack, .int .i64 x.weights.spread, .int .i64 x.weights.soft] _ := hrweights
  simp only [List.cons_append, List.nil_append]
  go_enter Tryz.func49, Tryz.ntmps49
  go_wp2_with (go_at_call 99; refine (HostAt_index x.hosts _ _ _ nm _ _ (hhosts.ext (by repeat (first | with_reducible exact ext_refl _ | with_reducible assumption | with_reducible refine ext_alloc ?_ _ | with_reducible refine ext_trans ?_ (by assumption)))) (by simp) (by simp) hl).mono ?_; rintro e w2 ⟨rfl, hb2⟩)
  go_ret
  exact ⟨rfl, (by repeat (first | with_reducible exact ext_refl _ | with_reducible assumption | with_reducible refine ext_alloc ?_ _ | with_reducible refine ext_trans ?_ (by assumption)))⟩
set_option maxHeartbeats 1000000 in
theorem HostAt_spec (x : Cluster) (cs : List Value) (F : List Nat) (nm : ByteArray) (w : World) (h : rd w x cs F) (hl : (x.hosts.length : Int) ≤ 1048576) :
    Calls Tryz.prog 48 #[.agg cs.toArray, .string nm] w fun e w' => e = .returned (.int .i64 (idxI (hostatP nm) x.hosts)) ∧ Below w.heap.size w w' := by
  obtain ⟨_, _, _, _, rfl, rfl, hhosts, _, _, _, _, rfl, rfl, hpods, _, _, _, _, rfl, rfl, ⟨rfl, rfl, hnext⟩, hweights⟩ := h
  obtain ⟨Ahosts, chosts, rfl, hhosts⟩ := rd_list hhosts
  obtain ⟨Apods, cpods, rfl, hpods⟩ := rd_list hpods
  have hrweights := hweights
  obtain ⟨rfl, rfl, hweightspack, hweightsspread, hweightssoft⟩ := rd_Weights hweights
  replace hhosts : Sl _ x.hosts Ahosts chosts _ := hhosts
  replace hpods : Sl _ x.pods Apods cpods _ := hpods
  replace hnext : I64 x.next := hnext
  replace hweightspack : I64 x.weights.pack := hweightspack
  replace hweightsspread : I64 x.weights.spread := hweightsspread
  replace hweightssoft : I64 x.weights.soft := hweightssoft
  replace hrweights : rd _ x.weights [.int .i64 x.weights.pack, .int .i64 x.weights.spread, .int .i64 x.weights.soft] _ := hrweights
  simp only [List.cons_append, List.nil_append]
  go_enter Tryz.func48, Tryz.ntmps48
  go_wp2
  go_loop [5] (fun i => ∃ k : Nat, k ≤ x.hosts.length ∧ i = .int .i64 k ∧ Hid (∀ y ∈ x.hosts.take k, hostatP nm y = false)) (fun i => x.hosts.length - (intOf i).toNat)
  case atStart => exact ⟨0, Nat.zero_le _, rfl, by show ∀ _, _; simp⟩
  case round =>
    obtain ⟨k, hk, rfl, Hn⟩ := hrel
    by_cases hlt : k < x.hosts.length
    · obtain ⟨b, o, ck, Fk, rfl, hbF, hbs, hr, hsub, hc⟩ := hhosts.get hlt
      obtain ⟨Alabels1, clabels1, Flabels1, Ataints1, ctaints1, Ftaints1, hck, rfl, hname1, hlabels1, hcpu1, hmem1, hslots1, htaints1⟩ := rd_Host hr
      subst hck
      have q0 : w.cell? ⟨b, o + k * 6, none⟩ = some (.string x.hosts[k].name) := by exact hc 0 _ rfl
      have q1 : w.cell? ⟨b, o + k * 6 + 1, none⟩ = some (.slice Alabels1 x.hosts[k].labels.length clabels1) := by rw [Nat.add_assoc]; exact hc 1 _ rfl
      have q2 : w.cell? ⟨b, o + k * 6 + 2, none⟩ = some (.int .i64 x.hosts[k].cpu) := by rw [Nat.add_assoc]; exact hc 2 _ rfl
      have q3 : w.cell? ⟨b, o + k * 6 + 3, none⟩ = some (.int .i64 x.hosts[k].mem) := by rw [Nat.add_assoc]; exact hc 3 _ rfl
      have q4 : w.cell? ⟨b, o + k * 6 + 4, none⟩ = some (.int .i64 x.hosts[k].slots) := by rw [Nat.add_assoc]; exact hc 4 _ rfl
      have q5 : w.cell? ⟨b, o + k * 6 + 5, none⟩ = some (.slice Ataints1 x.hosts[k].taints.length ctaints1) := by rw [Nat.add_assoc]; exact hc 5 _ rfl
      clear hc
      have hne : b ≠ w.heap.size := Nat.ne_of_lt hbs
      cases hp : hostatP nm x.hosts[k] with
      | false =>
        have HP := Lib.hid hp
        have hp' : (x.hosts[k].name.toList == nm.toList) = false := hp
        clear hp
        go_wp2
        exact ⟨⟨k + 1, by omega, by go_num, take_none hlt Hn.out HP.out⟩, by simp [intOf]; omega⟩
      | true =>
        have HP := Lib.hid hp
        have hp' : (x.hosts[k].name.toList == nm.toList) = true := hp
        clear hp
        have HI := Lib.hid (idxI_found hlt Hn.out HP.out)
        go_wp2
        go_ret
        exact ⟨by rw [HI.out]; rfl, (by repeat (first | with_reducible exact ext_refl _ | with_reducible assumption | with_reducible refine ext_alloc ?_ _ | with_reducible refine ext_trans ?_ (by assumption)))⟩
    · have hkl : k = x.hosts.length := by omega
      have hn := Hn.out
      rw [hkl, List.take_length] at hn
      have HI := Lib.hid (idxI_none hn)
      clear hn hkl
      go_wp2
      go_ret
      exact ⟨by rw [HI.out]; rfl, (by repeat (first | with_reducible exact ext_refl _ | with_reducible assumption | with_reducible refine ext_alloc ?_ _ | with_reducible refine ext_trans ?_ (by assumption)))⟩
def podatP (nm : ByteArray) (h : Placed) : Bool := eqStr h.pod.name nm
theorem PodAt_clo (x : Placed) (cs : List Value) (F : List Nat) (nm : ByteArray) (q : Nat) (w : World) (h : rd w x cs F) (hq : w.cell? ⟨q, 0, none⟩ = some (.string nm)) (hql : q < w.heap.size) :
    Calls Tryz.prog 102 #[.agg cs.toArray, .pointer (some ⟨q, 0, none⟩)] w fun e w' => e = .returned (.bool (podatP nm x)) ∧ Below w.heap.size w w' := by
  obtain ⟨_, _, _, _, rfl, rfl, hpod, _, _, _, _, rfl, rfl, ⟨rfl, rfl, hon⟩, ⟨rfl, rfl, hseq⟩⟩ := h
  have hrpod := hpod
  obtain ⟨Apodlabels, cpodlabels, Fpodlabels, Apodneeds, cpodneeds, Fpodneeds, Apodtolerances, cpodtolerances, Fpodtolerances, rfl, rfl, hpodname, hpodlabels, hpodcpu, hpodmem, hpodrank, hpodneeds, hpodtolerances⟩ := rd_Pod hpod
  replace hpodname := sz63 (s := x.pod.name) hpodname
  replace hpodlabels : Sl _ x.pod.labels Apodlabels cpodlabels _ := hpodlabels
  replace hpodcpu : I64 x.pod.cpu := hpodcpu
  replace hpodmem : I64 x.pod.mem := hpodmem
  replace hpodrank : I64 x.pod.rank := hpodrank
  replace hpodneeds : Sl _ x.pod.needs Apodneeds cpodneeds _ := hpodneeds
  replace hpodtolerances : Sl _ x.pod.tolerances Apodtolerances cpodtolerances _ := hpodtolerances
  replace hon := sz63 (s := x.on) hon
  replace hseq : I64 x.seq := hseq
  replace hrpod : rd _ x.pod [.string x.pod.name, .slice Apodlabels x.pod.labels.length cpodlabels, .int .i64 x.pod.cpu, .int .i64 x.pod.mem, .int .i64 x.pod.rank, .slice Apodneeds x.pod.needs.length cpodneeds, .slice Apodtolerances x.pod.tolerances.length cpodtolerances] _ := hrpod
  simp only [List.cons_append, List.nil_append]
  go_enter Tryz.func102, Tryz.ntmps102
  go_wp2
  go_ret
  exact ⟨rfl, ext_alloc (ext_refl _) _⟩
set_option maxHeartbeats 1000000 in
theorem PodAt_index (xs : List Placed) (A : Option Addr) (c : Nat) (F : List Nat) (nm : ByteArray) (q : Nat) (w : World) (h : Sl w xs A c F) (hq : w.cell? ⟨q, 0, none⟩ = some (.string nm)) (hql : q < w.heap.size) (hl : (xs.length : Int) ≤ 1048576) :
    Calls Tryz.prog 101 #[.slice A xs.length c, .func (.func 102) #[] #[.pointer (some ⟨q, 0, none⟩)]] w fun e w' => e = .returned (.int .i64 (idxI (podatP nm) xs)) ∧ Below w.heap.size w w' := by
  go_enter Tryz.func101, Tryz.ntmps101
  go_wp2
  go_loopw [5, 8] (fun _ i wr => ∃ k : Nat, k ≤ xs.length ∧ i = .int .i64 k ∧ Hid (∀ x ∈ xs.take k, podatP nm x = false) ∧ Below w.heap.size w wr) (fun _ i _ => xs.length - (intOf i).toNat)
  case atStart => exact ⟨0, Nat.zero_le _, rfl, by show ∀ _, _; simp, ext_refl _⟩
  case round =>
    obtain ⟨k, hk, rfl, Hn, hbl⟩ := hrel
    by_cases hlt : k < xs.length
    · obtain ⟨b, o, ck, Fk, rfl, hbF, hbs, hr, hsub, hc⟩ := (h.ext hbl).get hlt
      obtain ⟨Apodlabels, cpodlabels, Fpodlabels, Apodneeds, cpodneeds, Fpodneeds, Apodtolerances, cpodtolerances, Fpodtolerances, hck, rfl, hpodname, hpodlabels, hpodcpu, hpodmem, hpodrank, hpodneeds, hpodtolerances, hon, hseq⟩ := rd_Placed hr
      subst hck
      have q0 : wr.cell? ⟨b, o + k * 9, none⟩ = some (.string xs[k].pod.name) := by exact hc 0 _ rfl
      have q1 : wr.cell? ⟨b, o + k * 9 + 1, none⟩ = some (.slice Apodlabels xs[k].pod.labels.length cpodlabels) := by rw [Nat.add_assoc]; exact hc 1 _ rfl
      have q2 : wr.cell? ⟨b, o + k * 9 + 2, none⟩ = some (.int .i64 xs[k].pod.cpu) := by rw [Nat.add_assoc]; exact hc 2 _ rfl
      have q3 : wr.cell? ⟨b, o + k * 9 + 3, none⟩ = some (.int .i64 xs[k].pod.mem) := by rw [Nat.add_assoc]; exact hc 3 _ rfl
      have q4 : wr.cell? ⟨b, o + k * 9 + 4, none⟩ = some (.int .i64 xs[k].pod.rank) := by rw [Nat.add_assoc]; exact hc 4 _ rfl
      have q5 : wr.cell? ⟨b, o + k * 9 + 5, none⟩ = some (.slice Apodneeds xs[k].pod.needs.length cpodneeds) := by rw [Nat.add_assoc]; exact hc 5 _ rfl
      have q6 : wr.cell? ⟨b, o + k * 9 + 6, none⟩ = some (.slice Apodtolerances xs[k].pod.tolerances.length cpodtolerances) := by rw [Nat.add_assoc]; exact hc 6 _ rfl
      have q7 : wr.cell? ⟨b, o + k * 9 + 7, none⟩ = some (.string xs[k].on) := by rw [Nat.add_assoc]; exact hc 7 _ rfl
      have q8 : wr.cell? ⟨b, o + k * 9 + 8, none⟩ = some (.int .i64 xs[k].seq) := by rw [Nat.add_assoc]; exact hc 8 _ rfl
      clear hc
      have hqr : wr.cell? ⟨q, 0, none⟩ = some (.string nm) := by rw [← hq]; exact hbl.cell (p := ⟨q, 0, none⟩) hql
      have hqlr : q < wr.heap.size := Nat.lt_of_lt_of_le hql hbl.size
      cases hp : podatP nm xs[k] with
      | false =>
        have HP := Lib.hid hp
        clear hp
        go_wp2_with (go_at_call 102; refine (PodAt_clo xs[k] _ _ nm q _ hr hqr hqlr).mono ?_; rw [HP.out]; rintro e w2 ⟨rfl, hb2⟩)
        exact ⟨⟨k + 1, by omega, by go_num, take_none hlt Hn.out HP.out, ext_trans hbl hb2⟩, by simp [intOf]; omega⟩
      | true =>
        have HP := Lib.hid hp
        clear hp
        have HI := Lib.hid (idxI_found hlt Hn.out HP.out)
        go_wp2_with (go_at_call 102; refine (PodAt_clo xs[k] _ _ nm q _ hr hqr hqlr).mono ?_; rw [HP.out]; rintro e w2 ⟨rfl, hb2⟩)
        go_ret
        exact ⟨by rw [HI.out]; rfl, ext_trans hbl hb2⟩
    · have hkl : k = xs.length := by omega
      subst hkl
      have hn := Hn.out
      rw [List.take_length] at hn
      have HI := Lib.hid (idxI_none hn)
      clear hn
      go_wp2
      go_ret
      exact ⟨by rw [HI.out]; rfl, hbl⟩
theorem PodAt_impl (x : Cluster) (cs : List Value) (F : List Nat) (nm : ByteArray) (w : World) (h : rd w x cs F) (hl : (x.pods.length : Int) ≤ 1048576) :
    Calls Tryz.prog 52 #[.agg cs.toArray, .string nm] w fun e w' => e = .returned (.int .i64 (idxI (podatP nm) x.pods)) ∧ Below w.heap.size w w' := by
  obtain ⟨_, _, _, _, rfl, rfl, hhosts, _, _, _, _, rfl, rfl, hpods, _, _, _, _, rfl, rfl, ⟨rfl, rfl, hnext⟩, hweights⟩ := h
  obtain ⟨Ahosts, chosts, rfl, hhosts⟩ := rd_list hhosts
  obtain ⟨Apods, cpods, rfl, hpods⟩ := rd_list hpods
  have hrweights := hweights
  obtain ⟨rfl, rfl, hweightspack, hweightsspread, hweightssoft⟩ := rd_Weights hweights
  replace hhosts : Sl _ x.hosts Ahosts chosts _ := hhosts
  replace hpods : Sl _ x.pods Apods cpods _ := hpods
  replace hnext : I64 x.next := hnext
  replace hweightspack : I64 x.weights.pack := hweightspack
  replace hweightsspread : I64 x.weights.spread := hweightsspread
  replace hweightssoft : I64 x.weights.soft := hweightssoft
  replace hrweights : rd _ x.weights [.int .i64 x.weights.pack, .int .i64 x.weights.spread, .int .i64 x.weights.soft] _ := hrweights
  simp only [List.cons_append, List.nil_append]
  go_enter Tryz.func52, Tryz.ntmps52
  go_wp2_with (go_at_call 101; refine (PodAt_index x.pods _ _ _ nm _ _ (hpods.ext (by repeat (first | with_reducible exact ext_refl _ | with_reducible assumption | with_reducible refine ext_alloc ?_ _ | with_reducible refine ext_trans ?_ (by assumption)))) (by simp) (by simp) hl).mono ?_; rintro e w2 ⟨rfl, hb2⟩)
  go_ret
  exact ⟨rfl, (by repeat (first | with_reducible exact ext_refl _ | with_reducible assumption | with_reducible refine ext_alloc ?_ _ | with_reducible refine ext_trans ?_ (by assumption)))⟩
set_option maxHeartbeats 1000000 in
theorem PodAt_spec (x : Cluster) (cs : List Value) (F : List Nat) (nm : ByteArray) (w : World) (h : rd w x cs F) (hl : (x.pods.length : Int) ≤ 1048576) :
    Calls Tryz.prog 51 #[.agg cs.toArray, .string nm] w fun e w' => e = .returned (.int .i64 (idxI (podatP nm) x.pods)) ∧ Below w.heap.size w w' := by
  obtain ⟨_, _, _, _, rfl, rfl, hhosts, _, _, _, _, rfl, rfl, hpods, _, _, _, _, rfl, rfl, ⟨rfl, rfl, hnext⟩, hweights⟩ := h
  obtain ⟨Ahosts, chosts, rfl, hhosts⟩ := rd_list hhosts
  obtain ⟨Apods, cpods, rfl, hpods⟩ := rd_list hpods
  have hrweights := hweights
  obtain ⟨rfl, rfl, hweightspack, hweightsspread, hweightssoft⟩ := rd_Weights hweights
  replace hhosts : Sl _ x.hosts Ahosts chosts _ := hhosts
  replace hpods : Sl _ x.pods Apods cpods _ := hpods
  replace hnext : I64 x.next := hnext
  replace hweightspack : I64 x.weights.pack := hweightspack
  replace hweightsspread : I64 x.weights.spread := hweightsspread
  replace hweightssoft : I64 x.weights.soft := hweightssoft
  replace hrweights : rd _ x.weights [.int .i64 x.weights.pack, .int .i64 x.weights.spread, .int .i64 x.weights.soft] _ := hrweights
  simp only [List.cons_append, List.nil_append]
  go_enter Tryz.func51, Tryz.ntmps51
  go_wp2
  go_loop [5] (fun i => ∃ k : Nat, k ≤ x.pods.length ∧ i = .int .i64 k ∧ Hid (∀ y ∈ x.pods.take k, podatP nm y = false)) (fun i => x.pods.length - (intOf i).toNat)
  case atStart => exact ⟨0, Nat.zero_le _, rfl, by show ∀ _, _; simp⟩
  case round =>
    obtain ⟨k, hk, rfl, Hn⟩ := hrel
    by_cases hlt : k < x.pods.length
    · obtain ⟨b, o, ck, Fk, rfl, hbF, hbs, hr, hsub, hc⟩ := hpods.get hlt
      obtain ⟨Apodlabels1, cpodlabels1, Fpodlabels1, Apodneeds1, cpodneeds1, Fpodneeds1, Apodtolerances1, cpodtolerances1, Fpodtolerances1, hck, rfl, hpodname1, hpodlabels1, hpodcpu1, hpodmem1, hpodrank1, hpodneeds1, hpodtolerances1, hon1, hseq1⟩ := rd_Placed hr
      subst hck
      have q0 : w.cell? ⟨b, o + k * 9, none⟩ = some (.string x.pods[k].pod.name) := by exact hc 0 _ rfl
      have q1 : w.cell? ⟨b, o + k * 9 + 1, none⟩ = some (.slice Apodlabels1 x.pods[k].pod.labels.length cpodlabels1) := by rw [Nat.add_assoc]; exact hc 1 _ rfl
      have q2 : w.cell? ⟨b, o + k * 9 + 2, none⟩ = some (.int .i64 x.pods[k].pod.cpu) := by rw [Nat.add_assoc]; exact hc 2 _ rfl
      have q3 : w.cell? ⟨b, o + k * 9 + 3, none⟩ = some (.int .i64 x.pods[k].pod.mem) := by rw [Nat.add_assoc]; exact hc 3 _ rfl
      have q4 : w.cell? ⟨b, o + k * 9 + 4, none⟩ = some (.int .i64 x.pods[k].pod.rank) := by rw [Nat.add_assoc]; exact hc 4 _ rfl
      have q5 : w.cell? ⟨b, o + k * 9 + 5, none⟩ = some (.slice Apodneeds1 x.pods[k].pod.needs.length cpodneeds1) := by rw [Nat.add_assoc]; exact hc 5 _ rfl
      have q6 : w.cell? ⟨b, o + k * 9 + 6, none⟩ = some (.slice Apodtolerances1 x.pods[k].pod.tolerances.length cpodtolerances1) := by rw [Nat.add_assoc]; exact hc 6 _ rfl
      have q7 : w.cell? ⟨b, o + k * 9 + 7, none⟩ = some (.string x.pods[k].on) := by rw [Nat.add_assoc]; exact hc 7 _ rfl
      have q8 : w.cell? ⟨b, o + k * 9 + 8, none⟩ = some (.int .i64 x.pods[k].seq) := by rw [Nat.add_assoc]; exact hc 8 _ rfl
      clear hc
      have hne : b ≠ w.heap.size := Nat.ne_of_lt hbs
      cases hp : podatP nm x.pods[k] with
      | false =>
        have HP := Lib.hid hp
        have hp' : (x.pods[k].pod.name.toList == nm.toList) = false := hp
        clear hp
        go_wp2
        exact ⟨⟨k + 1, by omega, by go_num, take_none hlt Hn.out HP.out⟩, by simp [intOf]; omega⟩
      | true =>
        have HP := Lib.hid hp
        have hp' : (x.pods[k].pod.name.toList == nm.toList) = true := hp
        clear hp
        have HI := Lib.hid (idxI_found hlt Hn.out HP.out)
        go_wp2
        go_ret
        exact ⟨by rw [HI.out]; rfl, (by repeat (first | with_reducible exact ext_refl _ | with_reducible assumption | with_reducible refine ext_alloc ?_ _ | with_reducible refine ext_trans ?_ (by assumption)))⟩
    · have hkl : k = x.pods.length := by omega
      have hn := Hn.out
      rw [hkl, List.take_length] at hn
      have HI := Lib.hid (idxI_none hn)
      clear hn hkl
      go_wp2
      go_ret
      exact ⟨by rw [HI.out]; rfl, (by repeat (first | with_reducible exact ext_refl _ | with_reducible assumption | with_reducible refine ext_alloc ?_ _ | with_reducible refine ext_trans ?_ (by assumption)))⟩
end Go.Proofs.YtjoclfenghenjaaGreat
