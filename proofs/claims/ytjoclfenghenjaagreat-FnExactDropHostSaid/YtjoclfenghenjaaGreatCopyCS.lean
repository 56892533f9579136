/- copyCluster, of the program. No condition. -/
import Derived.Test.YtjoclfenghenjaaGreatCopy0
import Derived.Test.YtjoclfenghenjaaGreatReg0
import Derived.Test.YtjoclfenghenjaaGreatSz
namespace Go.Proofs.YtjoclfenghenjaaGreat
open Go.ChangeShapes Go.WideShapes Go.ChangeAt Go.RowKit
set_option linter.unusedVariables false
set_option linter.unusedSimpArgs false

/-- a copying call's state: the argument's box, the result's, and the box of what is made; all else is new -/
structure Cc (w wk : World) (cs zs os : List Value) : Prop where
  box : Blk wk w.heap.size cs
  rb : Blk wk (w.heap.size + 1) zs
  ob : Blk wk (w.heap.size + 1 + 1) os
  below : Below w.heap.size w wk
section
variable {w wk w' : World} {cs zs os : List Value}
theorem Cc.new (w : World) (cs zs os : List Value) (t : TypeId) : Cc w (((w.alloc (.cells cs.toArray t)).alloc (.cells zs.toArray t)).alloc (.cells os.toArray t)) cs zs os :=
  have h := (Cp.new w cs zs t t).ext (ext_alloc (ext_refl _) (.cells os.toArray t))
  ⟨h.box, h.rb, (by have := Blk.new ((w.alloc (.cells cs.toArray t)).alloc (.cells zs.toArray t)) os t; rw [World.size_alloc, World.size_alloc] at this; exact this), h.below⟩
theorem Cc.ext (h : Cc w wk cs zs os) (hb : Below wk.heap.size wk w') : Cc w w' cs zs os := ⟨h.box.ext hb, h.rb.ext hb, h.ob.ext hb, ext_trans h.below hb⟩
theorem Cc.put (h : Cc w wk cs zs os) (i : Nat) (u : Value) : Cc w (wk.setCell ⟨w.heap.size + 1 + 1, i, none⟩ u) cs zs (os.set i u) := ⟨h.box.far (by omega) i u, h.rb.far (by omega) i u, h.ob.put i u, ext_setCell h.below (by dsimp only; omega) u⟩
theorem Cc.far (h : Cc w wk cs zs os) {c : Nat} (hc : w.heap.size + 1 + 1 < c) (i : Nat) (u : Value) : Cc w (wk.setCell ⟨c, i, none⟩ u) cs zs os := ⟨h.box.far (by omega) i u, h.rb.far (by omega) i u, h.ob.far (by omega) i u, ext_setCell h.below (by dsimp only; omega) u⟩
theorem Cc.lt (h : Cc w wk cs zs os) : w.heap.size + 1 + 1 < wk.heap.size := h.ob.lt
theorem Cc.grown {row : Option Nat} (h : Cc w wk cs zs os) (hg : wk.grownBy w' row) (hr : ∀ q, row = some q → w.heap.size + 1 + 1 < q) : Cc w w' cs zs os :=
  ⟨h.box.keep (hg.block _ h.box.lt (by intro e; have := hr _ e.symm; omega)), h.rb.keep (hg.block _ h.rb.lt (by intro e; have := hr _ e.symm; omega)), h.ob.keep (hg.block _ h.ob.lt (by intro e; have := hr _ e.symm; omega)),
   ⟨hg.os.trans h.below.os, hg.tape.trans h.below.tape, hg.output.trans h.below.output, Nat.le_trans h.below.size hg.size, fun i hi => (hg.block i (by have := h.below.size; omega) (by intro e; have := hr _ e.symm; omega)).trans (h.below.block i hi)⟩⟩
end
theorem Blk.grown {w w' : World} {g : Nat} {cs : List Value} {row : Option Nat} (h : Blk w g cs) (hg : w.grownBy w' row) (hr : ∀ q, row = some q → q ≠ g) : Blk w' g cs := h.keep (hg.block _ h.lt (fun e => hr g e.symm rfl))
theorem Own.grownK {α : Type} [Dat α] {w w' : World} {B B2 : Nat} {x : α} {cs : List Value} {F : List Nat} {row : Option Nat} (h : Own w B x cs F) (hg : w.grownBy w' row) (hF : ∀ y ∈ F, y < B2) (hr : ∀ q, row = some q → B2 ≤ q) : Own w' B x cs F :=
  h.keep (fun y hy => hg.block y (h.lt y hy) (by intro e; have := hr _ e.symm; have := hF y hy; omega)) hg.size
theorem Own.placedK {w : World} {B : Nat} {p : Pod} {nm : ByteArray} {n : Int} {ps : List Value} {G : List Nat} (h : Own w B p ps G) (h1 : nm.size ≤ maxLen) (h2 : I64 n) : Own w B (⟨p, nm, n⟩ : Placed) (ps ++ [.string nm, .int .i64 n]) G := by
  refine Own.up (B' := B) (fun x : Placed => (x.pod, x.on, x.seq)) ?_ (Nat.le_refl _)
  have h3 : Own w (B + w.heap.size) (nm, n) ([.string nm] ++ [.int .i64 n]) [] := Own.cons (rdStr w nm (sz63 h1)) (Own.flat (rdInt w n h2))
  have h4 := Own.pair h h3 (by omega) (fun b hb => by have := h.lt b hb; omega)
  simpa using h4
theorem Own.clusterK {w : World} {B B3 B4 : Nat} {H : List Host} {P : List Placed} {n p q f : Int} {Ah Ap : Option Addr} {ch cp : Nat} {Gh Gp : List Nat} (h : Own w B3 H [.slice Ah H.length ch] Gh) (k : Own w B4 P [.slice Ap P.length cp] Gp) (hB : B ≤ B3) (hB4 : B3 ≤ B4) (hG : ∀ y ∈ Gh, y < B4) (hn : I64 n) (hp : I64 p) (hq : I64 q) (hf : I64 f) :
    Own w B (⟨H, P, n, ⟨p, q, f⟩⟩ : Cluster) [.slice Ah H.length ch, .slice Ap P.length cp, .int .i64 n, .int .i64 p, .int .i64 q, .int .i64 f] (Gh ++ Gp) := by
  refine Own.up (B' := B3) (fun x : Cluster => (x.hosts, x.pods, x.next, x.weights)) ?_ hB
  have h5 : Own w (B4 + w.heap.size) (⟨p, q, f⟩ : Weights) ([.int .i64 p] ++ ([.int .i64 q] ++ [.int .i64 f])) [] := by
    refine Own.up (B' := B4 + w.heap.size) (fun x : Weights => (x.pack, x.spread, x.soft)) ?_ (Nat.le_refl _)
    exact Own.cons (rdInt w p hp) (Own.cons (rdInt w q hq) (Own.flat (rdInt w f hf)))
  have h6 := Own.cons (rdInt w n hn) h5
  have h7 := Own.pair h (Own.pair k h6 (by omega) (fun b hb => by have := k.lt b hb; omega)) hB4 hG
  simpa using h7
theorem infoCHost : (Tryz.prog.info? 82).map (fun i => (i.zero, i.size, i.bytes)) = some (some ((.agg #[.string ⟨#[]⟩, .slice none 0 0, .int .i64 0, .int .i64 0, .int .i64 0, .slice none 0 0])), 6, 88) := by kernel_rfl
theorem elCHost : ElOk Tryz.prog 29 82 ((.agg #[.string ⟨#[]⟩, .slice none 0 0, .int .i64 0, .int .i64 0, .int .i64 0, .slice none 0 0])) 6 88 := ⟨Tryz.underlying29, infoCHost, rfl, by omega⟩
theorem infoCPlaced : (Tryz.prog.info? 78).map (fun i => (i.zero, i.size, i.bytes)) = some (some ((.agg #[.string ⟨#[]⟩, .slice none 0 0, .int .i64 0, .int .i64 0, .int .i64 0, .slice none 0 0, .slice none 0 0, .string ⟨#[]⟩, .int .i64 0])), 9, 136) := by kernel_rfl
theorem elCPlaced : ElOk Tryz.prog 30 78 ((.agg #[.string ⟨#[]⟩, .slice none 0 0, .int .i64 0, .int .i64 0, .int .i64 0, .slice none 0 0, .slice none 0 0, .string ⟨#[]⟩, .int .i64 0])) 9 136 := ⟨Tryz.underlying30, infoCPlaced, rfl, by omega⟩

theorem copy_bounds (x : Cluster) (hw : (x.wt : Int) ≤ 1048576) : (x.hosts.length : Int) ≤ 1048576 ∧ (x.pods.length : Int) ≤ 1048576 ∧ Hid (∀ h ∈ x.hosts, (h.labels.length : Int) ≤ 1048576 ∧ (h.taints.length : Int) ≤ 1048576) ∧
    Hid (∀ p ∈ x.pods, (p.pod.labels.length : Int) ≤ 1048576 ∧ (p.pod.needs.length : Int) ≤ 1048576 ∧ (p.pod.tolerances.length : Int) ≤ 1048576 ∧ ∀ y ∈ p.pod.needs, (y.values.length : Int) ≤ 1048576) := by
  have hwx : x.wt = wtL Host.wt x.hosts + wtL Placed.wt x.pods := rfl
  have h1 := wtL_len Host.wt x.hosts
  have h2 := wtL_len Placed.wt x.pods
  refine ⟨by omega, by omega, Lib.hid fun h hh => ?_, Lib.hid fun p hp => ?_⟩
  · have h3 : h.name.size + wtL Label.wt h.labels + wtL Taint.wt h.taints ≤ wtL Host.wt x.hosts := wtL_mem (f := Host.wt) hh
    have h4 := wtL_len Label.wt h.labels
    have h5 := wtL_len Taint.wt h.taints
    constructor <;> omega
  · have h3 : (p.pod.name.size + wtL Label.wt p.pod.labels + wtL Need.wt p.pod.needs + wtL Tolerance.wt p.pod.tolerances) + p.on.size ≤ wtL Placed.wt x.pods := wtL_mem (f := Placed.wt) hp
    have h4 := wtL_len Label.wt p.pod.labels
    have h5 := wtL_len Need.wt p.pod.needs
    have h6 := wtL_len Tolerance.wt p.pod.tolerances
    refine ⟨by omega, by omega, by omega, fun y hy => ?_⟩
    have h7 : y.key.size + wtL ByteArray.size y.values ≤ wtL Need.wt p.pod.needs := wtL_mem (f := Need.wt) hy
    have h8 := wtL_len ByteArray.size y.values
    omega
set_option maxRecDepth 100000 in
set_option maxHeartbeats 8000000 in
theorem copyCluster_any (x : Cluster) (cs : List Value) (F : List Nat) (w : World) (h : rd w x cs F) (hw : (x.wt : Int) ≤ 1048576) :
    Calls Tryz.prog 38 #[.agg cs.toArray] w fun e w' => ∃ cs F, e = .returned (.agg cs.toArray) ∧ Own w' w.heap.size x cs F ∧ Below w.heap.size w w' := by
  obtain ⟨hhl, hpl, HH, HP⟩ := copy_bounds x hw
  clear hw
  obtain ⟨Ahosts, chosts, Fhosts, Apods, cpods, Fpods, hck, hF0, hhosts, hpods, hnext, hweightspack, hweightsspread, hweightssoft⟩ := rd_Cluster h
  subst hck
  clear hF0 h
  have S0 := Cc.new w [.slice Ahosts x.hosts.length chosts, .slice Apods x.pods.length cpods, .int .i64 x.next, .int .i64 x.weights.pack, .int .i64 x.weights.spread, .int .i64 x.weights.soft] [.slice none 0 0, .slice none 0 0, .int .i64 0, .int .i64 0, .int .i64 0, .int .i64 0] [.slice none 0 0, .slice none 0 0, .int .i64 x.next, .int .i64 x.weights.pack, .int .i64 x.weights.spread, .int .i64 x.weights.soft] 33
  go_enter Tryz.func38, Tryz.ntmps38
  go_wp2_with fail
  go_loopw [16] (fun i wr => ∃ (k : Nat) (ds : List Value) (F' : List Nat) (v : Value), k ≤ x.hosts.length ∧ i = .int .i64 k ∧ wr.ownsRow (w.heap.size + 1 + 1 + 1) 82 6 v k ds ∧ OwnCells wr (w.heap.size + 1 + 1 + 1) (x.hosts.take k) ds F' ∧ (∀ g, v.ownBlock = some g → g ∉ F') ∧ Cc w wr [.slice Ahosts x.hosts.length chosts, .slice Apods x.pods.length cpods, .int .i64 x.next, .int .i64 x.weights.pack, .int .i64 x.weights.spread, .int .i64 x.weights.soft] [.slice none 0 0, .slice none 0 0, .int .i64 0, .int .i64 0, .int .i64 0, .int .i64 0] [v, .slice none 0 0, .int .i64 x.next, .int .i64 x.weights.pack, .int .i64 x.weights.spread, .int .i64 x.weights.soft] ∧ w.heap.size + 1 + 1 + 1 ≤ wr.heap.size) (fun i _ => x.hosts.length - (intOf i).toNat)
  case atStart => exact ⟨0, [], [], .slice none 0 0, Nat.zero_le _, rfl, ⟨rfl, .inl ⟨rfl, rfl⟩⟩, OwnCells.nil _ _, (fun g hg => by simp), S0, by simp [World.setCell]⟩
  case round =>
    obtain ⟨k, ds, F', v, hk, rfl, hown, hO, hne, hS, hBr⟩ := hrel
    by_cases hlt : k < x.hosts.length
    · obtain ⟨b, o, ck, Fk, rfl, hbF, hbs, hr, hsub, hc⟩ := Sl.get (α := Host) hhosts hlt
      have hr0 := hr
      obtain ⟨Alabels1, clabels1, Flabels1, Ataints1, ctaints1, Ftaints1, hck, hF1, hname1, hlabels1, hcpu1, hmem1, hslots1, htaints1⟩ := rd_Host hr
      subst hck
      clear hF1 hr
      have q0 : w.cell? ⟨b, o + k * 6, none⟩ = some (.string x.hosts[k].name) := by exact hc 0 _ rfl
      replace q0 := ((bcell hS.below).1 b _ hbs).trans q0
      have q1 : w.cell? ⟨b, o + k * 6 + 1, none⟩ = some (.slice Alabels1 x.hosts[k].labels.length clabels1) := by rw [Nat.add_assoc]; exact hc 1 _ rfl
      replace q1 := ((bcell hS.below).1 b _ hbs).trans q1
      have q2 : w.cell? ⟨b, o + k * 6 + 2, none⟩ = some (.int .i64 x.hosts[k].cpu) := by rw [Nat.add_assoc]; exact hc 2 _ rfl
      replace q2 := ((bcell hS.below).1 b _ hbs).trans q2
      have q3 : w.cell? ⟨b, o + k * 6 + 3, none⟩ = some (.int .i64 x.hosts[k].mem) := by rw [Nat.add_assoc]; exact hc 3 _ rfl
      replace q3 := ((bcell hS.below).1 b _ hbs).trans q3
      have q4 : w.cell? ⟨b, o + k * 6 + 4, none⟩ = some (.int .i64 x.hosts[k].slots) := by rw [Nat.add_assoc]; exact hc 4 _ rfl
      replace q4 := ((bcell hS.below).1 b _ hbs).trans q4
      have q5 : w.cell? ⟨b, o + k * 6 + 5, none⟩ = some (.slice Ataints1 x.hosts[k].taints.length ctaints1) := by rw [Nat.add_assoc]; exact hc 5 _ rfl
      replace q5 := ((bcell hS.below).1 b _ hbs).trans q5
      clear hc
      obtain ⟨hll, htl⟩ := HH.out x.hosts[k] (List.getElem_mem hlt)
      obtain ⟨Av, cv, hv2⟩ := row_sliceK hown
      subst hv2
      have SD := (hS.ext (ext_alloc (ext_refl _) (.cells ([.string x.hosts[k].name, .slice Alabels1 x.hosts[k].labels.length clabels1, .int .i64 x.hosts[k].cpu, .int .i64 x.hosts[k].mem, .int .i64 x.hosts[k].slots, .slice Ataints1 x.hosts[k].taints.length ctaints1] : List Value).toArray 82))).ext (ext_drew (ext_refl (wr.alloc (.cells ([.string x.hosts[k].name, .slice Alabels1 x.hosts[k].labels.length clabels1, .int .i64 x.hosts[k].cpu, .int .i64 x.hosts[k].mem, .int .i64 x.hosts[k].slots, .slice Ataints1 x.hosts[k].taints.length ctaints1] : List Value).toArray 82))))
      have HBX : Blk (wr.alloc (.cells ([.string x.hosts[k].name, .slice Alabels1 x.hosts[k].labels.length clabels1, .int .i64 x.hosts[k].cpu, .int .i64 x.hosts[k].mem, .int .i64 x.hosts[k].slots, .slice Ataints1 x.hosts[k].taints.length ctaints1] : List Value).toArray 82)).drew wr.heap.size [.string x.hosts[k].name, .slice Alabels1 x.hosts[k].labels.length clabels1, .int .i64 x.hosts[k].cpu, .int .i64 x.hosts[k].mem, .int .i64 x.hosts[k].slots, .slice Ataints1 x.hosts[k].taints.length ctaints1] := (Blk.new wr [.string x.hosts[k].name, .slice Alabels1 x.hosts[k].labels.length clabels1, .int .i64 x.hosts[k].cpu, .int .i64 x.hosts[k].mem, .int .i64 x.hosts[k].slots, .slice Ataints1 x.hosts[k].taints.length ctaints1] 82).ext (ext_drew (ext_refl _))
      have hbd : Below wr.heap.size wr (wr.alloc (.cells ([.string x.hosts[k].name, .slice Alabels1 x.hosts[k].labels.length clabels1, .int .i64 x.hosts[k].cpu, .int .i64 x.hosts[k].mem, .int .i64 x.hosts[k].slots, .slice Ataints1 x.hosts[k].taints.length ctaints1] : List Value).toArray 82)).drew := ext_drew (ext_alloc (ext_refl _) _)
      have rd0 := row_ext hown hbd
      have hcd := OwnCells.ext hO hbd
      have hzd := hbd.size
      have HLT := Lib.hid (fun g hg => (hown.lt g hg).2)
      have HLF := Lib.hid hO.lt
      have hrd := Dat.frame hr0 (fun b hb => SD.below.block b (Dat.lt hr0 b hb)) SD.below.size
      have x0 : (fun w' => w'.cell? ⟨w.heap.size + 1 + 1, 0, none⟩ = some (.slice Av k cv) ∧ w'.cell? ⟨wr.heap.size, 0, none⟩ = some (.string x.hosts[k].name) ∧ w'.cell? ⟨wr.heap.size, 1, none⟩ = some (.slice Alabels1 x.hosts[k].labels.length clabels1) ∧ w'.cell? ⟨wr.heap.size, 2, none⟩ = some (.int .i64 x.hosts[k].cpu) ∧ w'.cell? ⟨wr.heap.size, 3, none⟩ = some (.int .i64 x.hosts[k].mem) ∧ w'.cell? ⟨wr.heap.size, 4, none⟩ = some (.int .i64 x.hosts[k].slots) ∧ w'.cell? ⟨wr.heap.size, 5, none⟩ = some (.slice Ataints1 x.hosts[k].taints.length ctaints1)) (wr.alloc (.cells ([.string x.hosts[k].name, .slice Alabels1 x.hosts[k].labels.length clabels1, .int .i64 x.hosts[k].cpu, .int .i64 x.hosts[k].mem, .int .i64 x.hosts[k].slots, .slice Ataints1 x.hosts[k].taints.length ctaints1] : List Value).toArray 82)).drew := ⟨SD.ob.cell (i := 0) (u := .slice Av k cv) rfl, HBX.cell (i := 0) (u := .string x.hosts[k].name) rfl, HBX.cell (i := 1) (u := .slice Alabels1 x.hosts[k].labels.length clabels1) rfl, HBX.cell (i := 2) (u := .int .i64 x.hosts[k].cpu) rfl, HBX.cell (i := 3) (u := .int .i64 x.hosts[k].mem) rfl, HBX.cell (i := 4) (u := .int .i64 x.hosts[k].slots) rfl, HBX.cell (i := 5) (u := .slice Ataints1 x.hosts[k].taints.length ctaints1) rfl⟩
      have HNE := Lib.hid hne
      clear hS hown hO hne hbd
      go_wp2_with fail
      refine wp_region_cut (fun w' => w'.cell? ⟨w.heap.size + 1 + 1, 0, none⟩ = some (.slice Av k cv) ∧ w'.cell? ⟨wr.heap.size, 0, none⟩ = some (.string x.hosts[k].name) ∧ w'.cell? ⟨wr.heap.size, 1, none⟩ = some (.slice Alabels1 x.hosts[k].labels.length clabels1) ∧ w'.cell? ⟨wr.heap.size, 2, none⟩ = some (.int .i64 x.hosts[k].cpu) ∧ w'.cell? ⟨wr.heap.size, 3, none⟩ = some (.int .i64 x.hosts[k].mem) ∧ w'.cell? ⟨wr.heap.size, 4, none⟩ = some (.int .i64 x.hosts[k].slots) ∧ w'.cell? ⟨wr.heap.size, 5, none⟩ = some (.slice Ataints1 x.hosts[k].taints.length ctaints1)) [0, 1, 2] [3, 4, 5] [6, 7] (by kernel_rfl) (by kernel_rfl) (fun _ _ d _ _ h => by cases d <;> exact h) x0 ?_
      clear x0
      generalize (wr.alloc (.cells ([.string x.hosts[k].name, .slice Alabels1 x.hosts[k].labels.length clabels1, .int .i64 x.hosts[k].cpu, .int .i64 x.hosts[k].mem, .int .i64 x.hosts[k].slots, .slice Ataints1 x.hosts[k].taints.length ctaints1] : List Value).toArray 82)).drew = wd at *
      simp only [pick, List.getElem?_cons_succ, List.getElem?_cons_zero]
      iterate 3
        (apply headC_step
         case hy =>
           refine Or.inl ⟨rfl, fun wq hq => ?_⟩
           obtain ⟨y0, y1, y2, y3, y4, y5, y6⟩ := hq
           go_simp
           try rfl
         simp only [Act.put, List.setIfInBounds_toArray, List.set_cons_zero, List.set_cons_succ])
      refine headC_nil ?_
      refine wpListK_step rfl (fun K hK => ?_)
      go_simp
      refine (copyHost_any x.hosts[k] _ _ _ hrd hll htl).mono ?_
      rintro e w10 ⟨cs10, G10, rfl, hO10, hb10⟩
      have hrh := hO10.rd
      obtain ⟨Alabels7, clabels7, Flabels7, Ataints7, ctaints7, Ftaints7, hck, hGh, hname7, hlabels7, hcpu7, hmem7, hslots7, htaints7⟩ := rd_Host hrh
      subst hck
      clear hrh hGh
      have S10 := SD.ext hb10
      have HB10 := HBX.ext hb10
      have x0 : (fun w' => w'.cell? ⟨w.heap.size + 1 + 1, 0, none⟩ = some (.slice Av k cv) ∧ w'.cell? ⟨wr.heap.size, 0, none⟩ = some (.string x.hosts[k].name) ∧ w'.cell? ⟨wr.heap.size, 1, none⟩ = some (.slice Alabels1 x.hosts[k].labels.length clabels1) ∧ w'.cell? ⟨wr.heap.size, 2, none⟩ = some (.int .i64 x.hosts[k].cpu) ∧ w'.cell? ⟨wr.heap.size, 3, none⟩ = some (.int .i64 x.hosts[k].mem) ∧ w'.cell? ⟨wr.heap.size, 4, none⟩ = some (.int .i64 x.hosts[k].slots) ∧ w'.cell? ⟨wr.heap.size, 5, none⟩ = some (.slice Ataints1 x.hosts[k].taints.length ctaints1)) w10 := ⟨S10.ob.cell (i := 0) (u := .slice Av k cv) rfl, HB10.cell (i := 0) (u := .string x.hosts[k].name) rfl, HB10.cell (i := 1) (u := .slice Alabels1 x.hosts[k].labels.length clabels1) rfl, HB10.cell (i := 2) (u := .int .i64 x.hosts[k].cpu) rfl, HB10.cell (i := 3) (u := .int .i64 x.hosts[k].mem) rfl, HB10.cell (i := 4) (u := .int .i64 x.hosts[k].slots) rfl, HB10.cell (i := 5) (u := .slice Ataints1 x.hosts[k].taints.length ctaints1) rfl⟩
      refine hK _ _ x0 ?_
      try simp only [Act.put, List.setIfInBounds_toArray, List.set_cons_zero, List.set_cons_succ]
      clear hK K
      clear x0
      refine wpListK_step rfl (fun K hK => ?_)
      go_simp
      have S10a := S10.ext (ext_alloc (ext_refl _) (.cells ([.string x.hosts[k].name, .slice Alabels7 x.hosts[k].labels.length clabels7, .int .i64 x.hosts[k].cpu, .int .i64 x.hosts[k].mem, .int .i64 x.hosts[k].slots, .slice Ataints7 x.hosts[k].taints.length ctaints7] : List Value).toArray 82))
      have HB10a := Blk.ext HB10 (ext_alloc (ext_refl _) (.cells ([.string x.hosts[k].name, .slice Alabels7 x.hosts[k].labels.length clabels7, .int .i64 x.hosts[k].cpu, .int .i64 x.hosts[k].mem, .int .i64 x.hosts[k].slots, .slice Ataints7 x.hosts[k].taints.length ctaints7] : List Value).toArray 82))
      have x0 : (fun w' => w'.cell? ⟨w.heap.size + 1 + 1, 0, none⟩ = some (.slice Av k cv) ∧ w'.cell? ⟨wr.heap.size, 0, none⟩ = some (.string x.hosts[k].name) ∧ w'.cell? ⟨wr.heap.size, 1, none⟩ = some (.slice Alabels1 x.hosts[k].labels.length clabels1) ∧ w'.cell? ⟨wr.heap.size, 2, none⟩ = some (.int .i64 x.hosts[k].cpu) ∧ w'.cell? ⟨wr.heap.size, 3, none⟩ = some (.int .i64 x.hosts[k].mem) ∧ w'.cell? ⟨wr.heap.size, 4, none⟩ = some (.int .i64 x.hosts[k].slots) ∧ w'.cell? ⟨wr.heap.size, 5, none⟩ = some (.slice Ataints1 x.hosts[k].taints.length ctaints1)) (w10.alloc (.cells ([.string x.hosts[k].name, .slice Alabels7 x.hosts[k].labels.length clabels7, .int .i64 x.hosts[k].cpu, .int .i64 x.hosts[k].mem, .int .i64 x.hosts[k].slots, .slice Ataints7 x.hosts[k].taints.length ctaints7] : List Value).toArray 82)) := ⟨S10a.ob.cell (i := 0) (u := .slice Av k cv) rfl, HB10a.cell (i := 0) (u := .string x.hosts[k].name) rfl, HB10a.cell (i := 1) (u := .slice Alabels1 x.hosts[k].labels.length clabels1) rfl, HB10a.cell (i := 2) (u := .int .i64 x.hosts[k].cpu) rfl, HB10a.cell (i := 3) (u := .int .i64 x.hosts[k].mem) rfl, HB10a.cell (i := 4) (u := .int .i64 x.hosts[k].slots) rfl, HB10a.cell (i := 5) (u := .slice Ataints1 x.hosts[k].taints.length ctaints1) rfl⟩
      refine hK _ _ x0 ?_
      try simp only [Act.put, List.setIfInBounds_toArray, List.set_cons_zero, List.set_cons_succ]
      clear hK K
      clear x0 S10a HB10a
      have r10 := row_ext rd0 hb10
      have HR10 := Lib.hid r10
      have HC10 := Lib.hid (OwnCells.ext hcd hb10)
      have HS10 := Lib.hid S10
      have HHB := Lib.hid HB10
      have HO10 := Lib.hid hO10
      have hz10 : wr.heap.size ≤ w10.heap.size := Nat.le_trans hzd hb10.size
      clear SD rd0 hcd S10 hO10 hb10 HBX HB10 hrd
      refine wpListK_step rfl (fun K hK => ?_)
      refine wp_appendK elCHost _ _ (by rfl) _ _ _ _ _ r10 (by rfl) [.string x.hosts[k].name, .slice Alabels7 x.hosts[k].labels.length clabels7, .int .i64 x.hosts[k].cpu, .int .i64 x.hosts[k].mem, .int .i64 x.hosts[k].slots, .slice Ataints7 x.hosts[k].taints.length ctaints7] (by first | rfl | (simp; rfl)) (by rfl) (by simp [Value.oneCell']) (by omega) (by omega) (by omega) ?_
      intro v6 w11 hown11 hg11 hz11 hat11
      obtain ⟨A7, c7, hv6⟩ := row_sliceK hown11
      subst hv6
      have S11 := HS10.out.grown hg11 (fun q hq => by have := (r10.lt q hq).1; omega)
      have HB11 := HHB.out.grown hg11 (fun q hq => by have := HLT.out q hq; omega)
      have x0 : (fun w' => w'.cell? ⟨w.heap.size + 1 + 1, 0, none⟩ = some (.slice Av k cv) ∧ w'.cell? ⟨wr.heap.size, 0, none⟩ = some (.string x.hosts[k].name) ∧ w'.cell? ⟨wr.heap.size, 1, none⟩ = some (.slice Alabels1 x.hosts[k].labels.length clabels1) ∧ w'.cell? ⟨wr.heap.size, 2, none⟩ = some (.int .i64 x.hosts[k].cpu) ∧ w'.cell? ⟨wr.heap.size, 3, none⟩ = some (.int .i64 x.hosts[k].mem) ∧ w'.cell? ⟨wr.heap.size, 4, none⟩ = some (.int .i64 x.hosts[k].slots) ∧ w'.cell? ⟨wr.heap.size, 5, none⟩ = some (.slice Ataints1 x.hosts[k].taints.length ctaints1)) w11 := ⟨S11.ob.cell (i := 0) (u := .slice Av k cv) rfl, HB11.cell (i := 0) (u := .string x.hosts[k].name) rfl, HB11.cell (i := 1) (u := .slice Alabels1 x.hosts[k].labels.length clabels1) rfl, HB11.cell (i := 2) (u := .int .i64 x.hosts[k].cpu) rfl, HB11.cell (i := 3) (u := .int .i64 x.hosts[k].mem) rfl, HB11.cell (i := 4) (u := .int .i64 x.hosts[k].slots) rfl, HB11.cell (i := 5) (u := .slice Ataints1 x.hosts[k].taints.length ctaints1) rfl⟩
      have fx := S11.ob.fz 0
      have lx := S11.ob.lt
      refine hK _ _ x0 ?_
      try simp only [Act.put, List.setIfInBounds_toArray, List.set_cons_zero, List.set_cons_succ]
      clear hK K
      replace x0 := x0.1
      refine wpListK_nil ?_
      go_wp2
      obtain ⟨hcs12, hne12⟩ := OwnCells.pushK (v' := .slice A7 (k + 1) c7) HR10.out HC10.out HNE.out HO10.out (by omega) (fun g hg => by have := HLT.out g hg; omega) (fun y hy => by have := HLF.out y hy; omega) hg11 hat11
      rw [← List.take_succ_eq_append_getElem hlt] at hcs12
      have r13 := row_setK (c := w.heap.size + 1 + 1) (i := 0) (u := .slice A7 (k + 1) c7) hown11 (fun g hg => by have := (hown11.lt g hg).1; omega)
      refine ⟨⟨k + 1, _, _, .slice A7 (k + 1) c7, by omega, by go_num, r13, hcs12.setCell (p := ⟨w.heap.size + 1 + 1, 0, none⟩) (by show w.heap.size + 1 + 1 < _; omega) _, hne12, S11.put 0 (.slice A7 (k + 1) c7), by have := hg11.size; simp only [World.setCell, Array.size_modify] at *; omega⟩, by simp [intOf]; omega⟩
    · have hkl : k = x.hosts.length := by omega
      subst hkl
      rw [List.take_length] at hO
      obtain ⟨Ah, ch, Gh, rfl, hOH⟩ := Own.of_row hown hO hne
      obtain ⟨B4, hB4⟩ : ∃ B4, wr.heap.size = B4 := ⟨_, rfl⟩
      have HG4 := Lib.hid (show ∀ y ∈ Gh, y < B4 from fun y hy => hB4 ▸ hOH.lt y hy)
      have hB4s : B4 ≤ wr.heap.size := Nat.le_of_eq hB4.symm
      have hB34 : w.heap.size + 1 + 1 + 1 ≤ B4 := by omega
      have hbx0 := hS.box.cell (i := 0) (u := .slice Ahosts x.hosts.length chosts) rfl
      have hbx1 := hS.box.cell (i := 1) (u := .slice Apods x.pods.length cpods) rfl
      clear hB4 hown hO hne
      go_wp2_with fail
      clear hbx0 hbx1
      go_loopw [31] (fun i wr => ∃ (k : Nat) (ds : List Value) (F' : List Nat) (v : Value), k ≤ x.pods.length ∧ i = .int .i64 k ∧ wr.ownsRow B4 78 9 v k ds ∧ OwnCells wr B4 (x.pods.take k) ds F' ∧ (∀ g, v.ownBlock = some g → g ∉ F') ∧ Own wr (w.heap.size + 1 + 1 + 1) x.hosts [.slice Ah x.hosts.length ch] Gh ∧ Cc w wr [.slice Ahosts x.hosts.length chosts, .slice Apods x.pods.length cpods, .int .i64 x.next, .int .i64 x.weights.pack, .int .i64 x.weights.spread, .int .i64 x.weights.soft] [.slice none 0 0, .slice none 0 0, .int .i64 0, .int .i64 0, .int .i64 0, .int .i64 0] [.slice Ah x.hosts.length ch, v, .int .i64 x.next, .int .i64 x.weights.pack, .int .i64 x.weights.spread, .int .i64 x.weights.soft] ∧ B4 ≤ wr.heap.size) (fun i _ => x.pods.length - (intOf i).toNat)
      case atStart => exact ⟨0, [], [], .slice none 0 0, Nat.zero_le _, rfl, ⟨rfl, .inl ⟨rfl, rfl⟩⟩, OwnCells.nil _ _, (fun g hg => by simp), hOH, hS, hB4s⟩
      case round =>
        clear hS hOH hB4s hBr
        obtain ⟨k, ds, F', v, hk, rfl, hown, hO, hne, hOH, hS, hBr⟩ := hrel
        by_cases hlt : k < x.pods.length
        · obtain ⟨b, o, ck, Fk, rfl, hbF, hbs, hr, hsub, hc⟩ := Sl.get (α := Placed) hpods hlt
          obtain ⟨c1, c2, F1, F2, rfl, rfl, hrp, _, _, _, _, rfl, rfl, ⟨rfl, rfl, hon⟩, ⟨rfl, rfl, hseq⟩⟩ := hr
          have hrp0 := hrp
          obtain ⟨Alabels1, clabels1, Flabels1, Aneeds1, cneeds1, Fneeds1, Atolerances1, ctolerances1, Ftolerances1, hck, hF1, hname1, hlabels1, hcpu1, hmem1, hrank1, hneeds1, htolerances1⟩ := rd_Pod hrp
          subst hck
          clear hF1 hrp
          have q0 : w.cell? ⟨b, o + k * 9, none⟩ = some (.string x.pods[k].pod.name) := by exact hc 0 _ rfl
          replace q0 := ((bcell hS.below).1 b _ hbs).trans q0
          have q1 : w.cell? ⟨b, o + k * 9 + 1, none⟩ = some (.slice Alabels1 x.pods[k].pod.labels.length clabels1) := by rw [Nat.add_assoc]; exact hc 1 _ rfl
          replace q1 := ((bcell hS.below).1 b _ hbs).trans q1
          have q2 : w.cell? ⟨b, o + k * 9 + 2, none⟩ = some (.int .i64 x.pods[k].pod.cpu) := by rw [Nat.add_assoc]; exact hc 2 _ rfl
          replace q2 := ((bcell hS.below).1 b _ hbs).trans q2
          have q3 : w.cell? ⟨b, o + k * 9 + 3, none⟩ = some (.int .i64 x.pods[k].pod.mem) := by rw [Nat.add_assoc]; exact hc 3 _ rfl
          replace q3 := ((bcell hS.below).1 b _ hbs).trans q3
          have q4 : w.cell? ⟨b, o + k * 9 + 4, none⟩ = some (.int .i64 x.pods[k].pod.rank) := by rw [Nat.add_assoc]; exact hc 4 _ rfl
          replace q4 := ((bcell hS.below).1 b _ hbs).trans q4
          have q5 : w.cell? ⟨b, o + k * 9 + 5, none⟩ = some (.slice Aneeds1 x.pods[k].pod.needs.length cneeds1) := by rw [Nat.add_assoc]; exact hc 5 _ rfl
          replace q5 := ((bcell hS.below).1 b _ hbs).trans q5
          have q6 : w.cell? ⟨b, o + k * 9 + 6, none⟩ = some (.slice Atolerances1 x.pods[k].pod.tolerances.length ctolerances1) := by rw [Nat.add_assoc]; exact hc 6 _ rfl
          replace q6 := ((bcell hS.below).1 b _ hbs).trans q6
          have q7 : w.cell? ⟨b, o + k * 9 + 7, none⟩ = some (.string x.pods[k].on) := by rw [Nat.add_assoc]; exact hc 7 _ rfl
          replace q7 := ((bcell hS.below).1 b _ hbs).trans q7
          have q8 : w.cell? ⟨b, o + k * 9 + 8, none⟩ = some (.int .i64 x.pods[k].seq) := by rw [Nat.add_assoc]; exact hc 8 _ rfl
          replace q8 := ((bcell hS.below).1 b _ hbs).trans q8
          clear hc
          obtain ⟨hl1, hl2, hl3, hvv⟩ := HP.out x.pods[k] (List.getElem_mem hlt)
          have HVV := Lib.hid hvv
          obtain ⟨Av, cv, hv2⟩ := row_sliceK hown
          subst hv2
          clear hvv
          have SD := (hS.ext (ext_alloc (ext_refl _) (.cells ([.string x.pods[k].pod.name, .slice Alabels1 x.pods[k].pod.labels.length clabels1, .int .i64 x.pods[k].pod.cpu, .int .i64 x.pods[k].pod.mem, .int .i64 x.pods[k].pod.rank, .slice Aneeds1 x.pods[k].pod.needs.length cneeds1, .slice Atolerances1 x.pods[k].pod.tolerances.length ctolerances1, .string x.pods[k].on, .int .i64 x.pods[k].seq] : List Value).toArray 78))).ext (ext_drew (ext_refl (wr.alloc (.cells ([.string x.pods[k].pod.name, .slice Alabels1 x.pods[k].pod.labels.length clabels1, .int .i64 x.pods[k].pod.cpu, .int .i64 x.pods[k].pod.mem, .int .i64 x.pods[k].pod.rank, .slice Aneeds1 x.pods[k].pod.needs.length cneeds1, .slice Atolerances1 x.pods[k].pod.tolerances.length ctolerances1, .string x.pods[k].on, .int .i64 x.pods[k].seq] : List Value).toArray 78))))
          have HBX : Blk (wr.alloc (.cells ([.string x.pods[k].pod.name, .slice Alabels1 x.pods[k].pod.labels.length clabels1, .int .i64 x.pods[k].pod.cpu, .int .i64 x.pods[k].pod.mem, .int .i64 x.pods[k].pod.rank, .slice Aneeds1 x.pods[k].pod.needs.length cneeds1, .slice Atolerances1 x.pods[k].pod.tolerances.length ctolerances1, .string x.pods[k].on, .int .i64 x.pods[k].seq] : List Value).toArray 78)).drew wr.heap.size [.string x.pods[k].pod.name, .slice Alabels1 x.pods[k].pod.labels.length clabels1, .int .i64 x.pods[k].pod.cpu, .int .i64 x.pods[k].pod.mem, .int .i64 x.pods[k].pod.rank, .slice Aneeds1 x.pods[k].pod.needs.length cneeds1, .slice Atolerances1 x.pods[k].pod.tolerances.length ctolerances1, .string x.pods[k].on, .int .i64 x.pods[k].seq] := (Blk.new wr [.string x.pods[k].pod.name, .slice Alabels1 x.pods[k].pod.labels.length clabels1, .int .i64 x.pods[k].pod.cpu, .int .i64 x.pods[k].pod.mem, .int .i64 x.pods[k].pod.rank, .slice Aneeds1 x.pods[k].pod.needs.length cneeds1, .slice Atolerances1 x.pods[k].pod.tolerances.length ctolerances1, .string x.pods[k].on, .int .i64 x.pods[k].seq] 78).ext (ext_drew (ext_refl _))
          have hbd : Below wr.heap.size wr (wr.alloc (.cells ([.string x.pods[k].pod.name, .slice Alabels1 x.pods[k].pod.labels.length clabels1, .int .i64 x.pods[k].pod.cpu, .int .i64 x.pods[k].pod.mem, .int .i64 x.pods[k].pod.rank, .slice Aneeds1 x.pods[k].pod.needs.length cneeds1, .slice Atolerances1 x.pods[k].pod.tolerances.length ctolerances1, .string x.pods[k].on, .int .i64 x.pods[k].seq] : List Value).toArray 78)).drew := ext_drew (ext_alloc (ext_refl _) _)
          have rd0 := row_ext hown hbd
          have hcd := OwnCells.ext hO hbd
          have hod := Own.ext hOH hbd
          have hzd := hbd.size
          have HLT := Lib.hid (fun g hg => (hown.lt g hg).2)
          have HLF := Lib.hid hO.lt
          have hrd := Dat.frame hrp0 (fun b hb => SD.below.block b (Dat.lt hrp0 b hb)) SD.below.size
          have x0 : (fun w' => w'.cell? ⟨w.heap.size + 1 + 1, 1, none⟩ = some (.slice Av k cv) ∧ w'.cell? ⟨wr.heap.size, 0, none⟩ = some (.string x.pods[k].pod.name) ∧ w'.cell? ⟨wr.heap.size, 1, none⟩ = some (.slice Alabels1 x.pods[k].pod.labels.length clabels1) ∧ w'.cell? ⟨wr.heap.size, 2, none⟩ = some (.int .i64 x.pods[k].pod.cpu) ∧ w'.cell? ⟨wr.heap.size, 3, none⟩ = some (.int .i64 x.pods[k].pod.mem) ∧ w'.cell? ⟨wr.heap.size, 4, none⟩ = some (.int .i64 x.pods[k].pod.rank) ∧ w'.cell? ⟨wr.heap.size, 5, none⟩ = some (.slice Aneeds1 x.pods[k].pod.needs.length cneeds1) ∧ w'.cell? ⟨wr.heap.size, 6, none⟩ = some (.slice Atolerances1 x.pods[k].pod.tolerances.length ctolerances1) ∧ w'.cell? ⟨wr.heap.size, 7, none⟩ = some (.string x.pods[k].on) ∧ w'.cell? ⟨wr.heap.size, 8, none⟩ = some (.int .i64 x.pods[k].seq)) (wr.alloc (.cells ([.string x.pods[k].pod.name, .slice Alabels1 x.pods[k].pod.labels.length clabels1, .int .i64 x.pods[k].pod.cpu, .int .i64 x.pods[k].pod.mem, .int .i64 x.pods[k].pod.rank, .slice Aneeds1 x.pods[k].pod.needs.length cneeds1, .slice Atolerances1 x.pods[k].pod.tolerances.length ctolerances1, .string x.pods[k].on, .int .i64 x.pods[k].seq] : List Value).toArray 78)).drew := ⟨SD.ob.cell (i := 1) (u := .slice Av k cv) rfl, HBX.cell (i := 0) (u := .string x.pods[k].pod.name) rfl, HBX.cell (i := 1) (u := .slice Alabels1 x.pods[k].pod.labels.length clabels1) rfl, HBX.cell (i := 2) (u := .int .i64 x.pods[k].pod.cpu) rfl, HBX.cell (i := 3) (u := .int .i64 x.pods[k].pod.mem) rfl, HBX.cell (i := 4) (u := .int .i64 x.pods[k].pod.rank) rfl, HBX.cell (i := 5) (u := .slice Aneeds1 x.pods[k].pod.needs.length cneeds1) rfl, HBX.cell (i := 6) (u := .slice Atolerances1 x.pods[k].pod.tolerances.length ctolerances1) rfl, HBX.cell (i := 7) (u := .string x.pods[k].on) rfl, HBX.cell (i := 8) (u := .int .i64 x.pods[k].seq) rfl⟩
          have HNE := Lib.hid hne
          clear hS hown hO hne hbd hOH
          go_wp2_with fail
          refine wp_region_cut (fun w' => w'.cell? ⟨w.heap.size + 1 + 1, 1, none⟩ = some (.slice Av k cv) ∧ w'.cell? ⟨wr.heap.size, 0, none⟩ = some (.string x.pods[k].pod.name) ∧ w'.cell? ⟨wr.heap.size, 1, none⟩ = some (.slice Alabels1 x.pods[k].pod.labels.length clabels1) ∧ w'.cell? ⟨wr.heap.size, 2, none⟩ = some (.int .i64 x.pods[k].pod.cpu) ∧ w'.cell? ⟨wr.heap.size, 3, none⟩ = some (.int .i64 x.pods[k].pod.mem) ∧ w'.cell? ⟨wr.heap.size, 4, none⟩ = some (.int .i64 x.pods[k].pod.rank) ∧ w'.cell? ⟨wr.heap.size, 5, none⟩ = some (.slice Aneeds1 x.pods[k].pod.needs.length cneeds1) ∧ w'.cell? ⟨wr.heap.size, 6, none⟩ = some (.slice Atolerances1 x.pods[k].pod.tolerances.length ctolerances1) ∧ w'.cell? ⟨wr.heap.size, 7, none⟩ = some (.string x.pods[k].on) ∧ w'.cell? ⟨wr.heap.size, 8, none⟩ = some (.int .i64 x.pods[k].seq)) [0, 1, 2, 3, 5, 6, 7, 8] [4, 9, 10, 11] [12, 13] (by kernel_rfl) (by kernel_rfl) (fun _ _ d _ _ h => by cases d <;> exact h) x0 ?_
          clear x0
          generalize (wr.alloc (.cells ([.string x.pods[k].pod.name, .slice Alabels1 x.pods[k].pod.labels.length clabels1, .int .i64 x.pods[k].pod.cpu, .int .i64 x.pods[k].pod.mem, .int .i64 x.pods[k].pod.rank, .slice Aneeds1 x.pods[k].pod.needs.length cneeds1, .slice Atolerances1 x.pods[k].pod.tolerances.length ctolerances1, .string x.pods[k].on, .int .i64 x.pods[k].seq] : List Value).toArray 78)).drew = wd at *
          simp only [pick, List.getElem?_cons_succ, List.getElem?_cons_zero]
          iterate 8
            (apply headC_step
             case hy =>
               refine Or.inl ⟨rfl, fun wq hq => ?_⟩
               obtain ⟨y0, y1, y2, y3, y4, y5, y6, y7, y8, y9⟩ := hq
               go_simp
               try rfl
             simp only [Act.put, List.setIfInBounds_toArray, List.set_cons_zero, List.set_cons_succ])
          refine headC_nil ?_
          refine wpListK_step rfl (fun K hK => ?_)
          go_simp
          refine (copyPod_any x.pods[k].pod _ _ _ hrd hl1 hl2 hl3 HVV.out).mono ?_
          rintro e w10 ⟨cs10, G10, rfl, hO10, hb10⟩
          have hrh := hO10.rd
          obtain ⟨Alabels7, clabels7, Flabels7, Aneeds7, cneeds7, Fneeds7, Atolerances7, ctolerances7, Ftolerances7, hck, hGh, hname7, hlabels7, hcpu7, hmem7, hrank7, hneeds7, htolerances7⟩ := rd_Pod hrh
          subst hck
          clear hrh hGh
          have S10 := SD.ext hb10
          have HB10 := HBX.ext hb10
          have x0 : (fun w' => w'.cell? ⟨w.heap.size + 1 + 1, 1, none⟩ = some (.slice Av k cv) ∧ w'.cell? ⟨wr.heap.size, 0, none⟩ = some (.string x.pods[k].pod.name) ∧ w'.cell? ⟨wr.heap.size, 1, none⟩ = some (.slice Alabels1 x.pods[k].pod.labels.length clabels1) ∧ w'.cell? ⟨wr.heap.size, 2, none⟩ = some (.int .i64 x.pods[k].pod.cpu) ∧ w'.cell? ⟨wr.heap.size, 3, none⟩ = some (.int .i64 x.pods[k].pod.mem) ∧ w'.cell? ⟨wr.heap.size, 4, none⟩ = some (.int .i64 x.pods[k].pod.rank) ∧ w'.cell? ⟨wr.heap.size, 5, none⟩ = some (.slice Aneeds1 x.pods[k].pod.needs.length cneeds1) ∧ w'.cell? ⟨wr.heap.size, 6, none⟩ = some (.slice Atolerances1 x.pods[k].pod.tolerances.length ctolerances1) ∧ w'.cell? ⟨wr.heap.size, 7, none⟩ = some (.string x.pods[k].on) ∧ w'.cell? ⟨wr.heap.size, 8, none⟩ = some (.int .i64 x.pods[k].seq)) w10 := ⟨S10.ob.cell (i := 1) (u := .slice Av k cv) rfl, HB10.cell (i := 0) (u := .string x.pods[k].pod.name) rfl, HB10.cell (i := 1) (u := .slice Alabels1 x.pods[k].pod.labels.length clabels1) rfl, HB10.cell (i := 2) (u := .int .i64 x.pods[k].pod.cpu) rfl, HB10.cell (i := 3) (u := .int .i64 x.pods[k].pod.mem) rfl, HB10.cell (i := 4) (u := .int .i64 x.pods[k].pod.rank) rfl, HB10.cell (i := 5) (u := .slice Aneeds1 x.pods[k].pod.needs.length cneeds1) rfl, HB10.cell (i := 6) (u := .slice Atolerances1 x.pods[k].pod.tolerances.length ctolerances1) rfl, HB10.cell (i := 7) (u := .string x.pods[k].on) rfl, HB10.cell (i := 8) (u := .int .i64 x.pods[k].seq) rfl⟩
          refine hK _ _ x0 ?_
          try simp only [Act.put, List.setIfInBounds_toArray, List.set_cons_zero, List.set_cons_succ]
          clear hK K
          clear x0
          refine wpListK_step rfl (fun K hK => ?_)
          go_simp
          have x0 : (fun w' => w'.cell? ⟨w.heap.size + 1 + 1, 1, none⟩ = some (.slice Av k cv) ∧ w'.cell? ⟨wr.heap.size, 0, none⟩ = some (.string x.pods[k].pod.name) ∧ w'.cell? ⟨wr.heap.size, 1, none⟩ = some (.slice Alabels1 x.pods[k].pod.labels.length clabels1) ∧ w'.cell? ⟨wr.heap.size, 2, none⟩ = some (.int .i64 x.pods[k].pod.cpu) ∧ w'.cell? ⟨wr.heap.size, 3, none⟩ = some (.int .i64 x.pods[k].pod.mem) ∧ w'.cell? ⟨wr.heap.size, 4, none⟩ = some (.int .i64 x.pods[k].pod.rank) ∧ w'.cell? ⟨wr.heap.size, 5, none⟩ = some (.slice Aneeds1 x.pods[k].pod.needs.length cneeds1) ∧ w'.cell? ⟨wr.heap.size, 6, none⟩ = some (.slice Atolerances1 x.pods[k].pod.tolerances.length ctolerances1) ∧ w'.cell? ⟨wr.heap.size, 7, none⟩ = some (.string x.pods[k].on) ∧ w'.cell? ⟨wr.heap.size, 8, none⟩ = some (.int .i64 x.pods[k].seq)) w10 := ⟨S10.ob.cell (i := 1) (u := .slice Av k cv) rfl, HB10.cell (i := 0) (u := .string x.pods[k].pod.name) rfl, HB10.cell (i := 1) (u := .slice Alabels1 x.pods[k].pod.labels.length clabels1) rfl, HB10.cell (i := 2) (u := .int .i64 x.pods[k].pod.cpu) rfl, HB10.cell (i := 3) (u := .int .i64 x.pods[k].pod.mem) rfl, HB10.cell (i := 4) (u := .int .i64 x.pods[k].pod.rank) rfl, HB10.cell (i := 5) (u := .slice Aneeds1 x.pods[k].pod.needs.length cneeds1) rfl, HB10.cell (i := 6) (u := .slice Atolerances1 x.pods[k].pod.tolerances.length ctolerances1) rfl, HB10.cell (i := 7) (u := .string x.pods[k].on) rfl, HB10.cell (i := 8) (u := .int .i64 x.pods[k].seq) rfl⟩
          refine hK _ _ x0 ?_
          try simp only [Act.put, List.setIfInBounds_toArray, List.set_cons_zero, List.set_cons_succ]
          clear hK K
          clear x0
          refine wpListK_step rfl (fun K hK => ?_)
          go_simp
          have S10a := S10.ext (ext_alloc (ext_refl _) (.cells ([.string x.pods[k].pod.name, .slice Alabels7 x.pods[k].pod.labels.length clabels7, .int .i64 x.pods[k].pod.cpu, .int .i64 x.pods[k].pod.mem, .int .i64 x.pods[k].pod.rank, .slice Aneeds7 x.pods[k].pod.needs.length cneeds7, .slice Atolerances7 x.pods[k].pod.tolerances.length ctolerances7, .string x.pods[k].on, .int .i64 x.pods[k].seq] : List Value).toArray 78))
          have HB10a := Blk.ext HB10 (ext_alloc (ext_refl _) (.cells ([.string x.pods[k].pod.name, .slice Alabels7 x.pods[k].pod.labels.length clabels7, .int .i64 x.pods[k].pod.cpu, .int .i64 x.pods[k].pod.mem, .int .i64 x.pods[k].pod.rank, .slice Aneeds7 x.pods[k].pod.needs.length cneeds7, .slice Atolerances7 x.pods[k].pod.tolerances.length ctolerances7, .string x.pods[k].on, .int .i64 x.pods[k].seq] : List Value).toArray 78))
          have x0 : (fun w' => w'.cell? ⟨w.heap.size + 1 + 1, 1, none⟩ = some (.slice Av k cv) ∧ w'.cell? ⟨wr.heap.size, 0, none⟩ = some (.string x.pods[k].pod.name) ∧ w'.cell? ⟨wr.heap.size, 1, none⟩ = some (.slice Alabels1 x.pods[k].pod.labels.length clabels1) ∧ w'.cell? ⟨wr.heap.size, 2, none⟩ = some (.int .i64 x.pods[k].pod.cpu) ∧ w'.cell? ⟨wr.heap.size, 3, none⟩ = some (.int .i64 x.pods[k].pod.mem) ∧ w'.cell? ⟨wr.heap.size, 4, none⟩ = some (.int .i64 x.pods[k].pod.rank) ∧ w'.cell? ⟨wr.heap.size, 5, none⟩ = some (.slice Aneeds1 x.pods[k].pod.needs.length cneeds1) ∧ w'.cell? ⟨wr.heap.size, 6, none⟩ = some (.slice Atolerances1 x.pods[k].pod.tolerances.length ctolerances1) ∧ w'.cell? ⟨wr.heap.size, 7, none⟩ = some (.string x.pods[k].on) ∧ w'.cell? ⟨wr.heap.size, 8, none⟩ = some (.int .i64 x.pods[k].seq)) (w10.alloc (.cells ([.string x.pods[k].pod.name, .slice Alabels7 x.pods[k].pod.labels.length clabels7, .int .i64 x.pods[k].pod.cpu, .int .i64 x.pods[k].pod.mem, .int .i64 x.pods[k].pod.rank, .slice Aneeds7 x.pods[k].pod.needs.length cneeds7, .slice Atolerances7 x.pods[k].pod.tolerances.length ctolerances7, .string x.pods[k].on, .int .i64 x.pods[k].seq] : List Value).toArray 78)) := ⟨S10a.ob.cell (i := 1) (u := .slice Av k cv) rfl, HB10a.cell (i := 0) (u := .string x.pods[k].pod.name) rfl, HB10a.cell (i := 1) (u := .slice Alabels1 x.pods[k].pod.labels.length clabels1) rfl, HB10a.cell (i := 2) (u := .int .i64 x.pods[k].pod.cpu) rfl, HB10a.cell (i := 3) (u := .int .i64 x.pods[k].pod.mem) rfl, HB10a.cell (i := 4) (u := .int .i64 x.pods[k].pod.rank) rfl, HB10a.cell (i := 5) (u := .slice Aneeds1 x.pods[k].pod.needs.length cneeds1) rfl, HB10a.cell (i := 6) (u := .slice Atolerances1 x.pods[k].pod.tolerances.length ctolerances1) rfl, HB10a.cell (i := 7) (u := .string x.pods[k].on) rfl, HB10a.cell (i := 8) (u := .int .i64 x.pods[k].seq) rfl⟩
          refine hK _ _ x0 ?_
          try simp only [Act.put, List.setIfInBounds_toArray, List.set_cons_zero, List.set_cons_succ]
          clear hK K
          clear x0 S10a HB10a
          have r10 := row_ext rd0 hb10
          have HR10 := Lib.hid r10
          have HC10 := Lib.hid (OwnCells.ext hcd hb10)
          have HOHd := Lib.hid (Own.ext hod hb10)
          have HS10 := Lib.hid S10
          have HHB := Lib.hid HB10
          have HO10 := Lib.hid (show Own w10 _ x.pods[k] [.string x.pods[k].pod.name, .slice Alabels7 x.pods[k].pod.labels.length clabels7, .int .i64 x.pods[k].pod.cpu, .int .i64 x.pods[k].pod.mem, .int .i64 x.pods[k].pod.rank, .slice Aneeds7 x.pods[k].pod.needs.length cneeds7, .slice Atolerances7 x.pods[k].pod.tolerances.length ctolerances7, .string x.pods[k].on, .int .i64 x.pods[k].seq] G10 from Own.placedK hO10 hon hseq)
          have hz10 : wr.heap.size ≤ w10.heap.size := Nat.le_trans hzd hb10.size
          clear SD rd0 hcd hod S10 hO10 hb10 HBX HB10 hrd
          refine wpListK_step rfl (fun K hK => ?_)
          refine wp_appendK elCPlaced _ _ (by rfl) _ _ _ _ _ r10 (by rfl) [.string x.pods[k].pod.name, .slice Alabels7 x.pods[k].pod.labels.length clabels7, .int .i64 x.pods[k].pod.cpu, .int .i64 x.pods[k].pod.mem, .int .i64 x.pods[k].pod.rank, .slice Aneeds7 x.pods[k].pod.needs.length cneeds7, .slice Atolerances7 x.pods[k].pod.tolerances.length ctolerances7, .string x.pods[k].on, .int .i64 x.pods[k].seq] (by first | rfl | (simp; rfl)) (by rfl) (by simp [Value.oneCell']) (by omega) (by omega) (by omega) ?_
          intro v6 w11 hown11 hg11 hz11 hat11
          obtain ⟨A7, c7, hv6⟩ := row_sliceK hown11
          subst hv6
          have S11 := HS10.out.grown hg11 (fun q hq => by have := (r10.lt q hq).1; omega)
          have HB11 := HHB.out.grown hg11 (fun q hq => by have := HLT.out q hq; omega)
          have HOH11 := HOHd.out.grownK hg11 HG4.out (fun q hq => (r10.lt q hq).1)
          have x0 : (fun w' => w'.cell? ⟨w.heap.size + 1 + 1, 1, none⟩ = some (.slice Av k cv) ∧ w'.cell? ⟨wr.heap.size, 0, none⟩ = some (.string x.pods[k].pod.name) ∧ w'.cell? ⟨wr.heap.size, 1, none⟩ = some (.slice Alabels1 x.pods[k].pod.labels.length clabels1) ∧ w'.cell? ⟨wr.heap.size, 2, none⟩ = some (.int .i64 x.pods[k].pod.cpu) ∧ w'.cell? ⟨wr.heap.size, 3, none⟩ = some (.int .i64 x.pods[k].pod.mem) ∧ w'.cell? ⟨wr.heap.size, 4, none⟩ = some (.int .i64 x.pods[k].pod.rank) ∧ w'.cell? ⟨wr.heap.size, 5, none⟩ = some (.slice Aneeds1 x.pods[k].pod.needs.length cneeds1) ∧ w'.cell? ⟨wr.heap.size, 6, none⟩ = some (.slice Atolerances1 x.pods[k].pod.tolerances.length ctolerances1) ∧ w'.cell? ⟨wr.heap.size, 7, none⟩ = some (.string x.pods[k].on) ∧ w'.cell? ⟨wr.heap.size, 8, none⟩ = some (.int .i64 x.pods[k].seq)) w11 := ⟨S11.ob.cell (i := 1) (u := .slice Av k cv) rfl, HB11.cell (i := 0) (u := .string x.pods[k].pod.name) rfl, HB11.cell (i := 1) (u := .slice Alabels1 x.pods[k].pod.labels.length clabels1) rfl, HB11.cell (i := 2) (u := .int .i64 x.pods[k].pod.cpu) rfl, HB11.cell (i := 3) (u := .int .i64 x.pods[k].pod.mem) rfl, HB11.cell (i := 4) (u := .int .i64 x.pods[k].pod.rank) rfl, HB11.cell (i := 5) (u := .slice Aneeds1 x.pods[k].pod.needs.length cneeds1) rfl, HB11.cell (i := 6) (u := .slice Atolerances1 x.pods[k].pod.tolerances.length ctolerances1) rfl, HB11.cell (i := 7) (u := .string x.pods[k].on) rfl, HB11.cell (i := 8) (u := .int .i64 x.pods[k].seq) rfl⟩
          have fx := S11.ob.fz 1
          have lx := S11.ob.lt
          refine hK _ _ x0 ?_
          try simp only [Act.put, List.setIfInBounds_toArray, List.set_cons_zero, List.set_cons_succ]
          clear hK K
          replace x0 := x0.1
          refine wpListK_nil ?_
          go_wp2
          obtain ⟨hcs12, hne12⟩ := OwnCells.pushK (v' := .slice A7 (k + 1) c7) HR10.out HC10.out HNE.out HO10.out (by omega) (fun g hg => by have := HLT.out g hg; omega) (fun y hy => by have := HLF.out y hy; omega) hg11 hat11
          rw [← List.take_succ_eq_append_getElem hlt] at hcs12
          have r13 := row_setK (c := w.heap.size + 1 + 1) (i := 1) (u := .slice A7 (k + 1) c7) hown11 (fun g hg => by have := (hown11.lt g hg).1; omega)
          refine ⟨⟨k + 1, _, _, .slice A7 (k + 1) c7, by omega, by go_num, r13, hcs12.setCell (p := ⟨w.heap.size + 1 + 1, 1, none⟩) (by show w.heap.size + 1 + 1 < _; omega) _, hne12, HOH11.setCell (p := ⟨w.heap.size + 1 + 1, 1, none⟩) (by show w.heap.size + 1 + 1 < _; omega) _, S11.put 1 (.slice A7 (k + 1) c7), by have := hg11.size; simp only [World.setCell, Array.size_modify] at *; omega⟩, by simp [intOf]; omega⟩
        · have hkl : k = x.pods.length := by omega
          subst hkl
          rw [List.take_length] at hO
          obtain ⟨Ap, cp, Gp, rfl, hOP⟩ := Own.of_row hown hO hne
          have HO := Lib.hid (Own.clusterK hOH hOP (Nat.le_refl _) hB34 HG4.out hnext hweightspack hweightsspread hweightssoft)
          have hbx1 := hS.box.cell (i := 1) (u := .slice Apods x.pods.length cpods) rfl
          have m0 := hS.ob.cell (i := 0) (u := .slice Ah x.hosts.length ch) rfl
          have m1 := hS.ob.cell (i := 1) (u := .slice Ap x.pods.length cp) rfl
          have m2 := hS.ob.cell (i := 2) (u := .int .i64 x.next) rfl
          have m3 := hS.ob.cell (i := 3) (u := .int .i64 x.weights.pack) rfl
          have m4 := hS.ob.cell (i := 4) (u := .int .i64 x.weights.spread) rfl
          have m5 := hS.ob.cell (i := 5) (u := .int .i64 x.weights.soft) rfl
          have r0 := hS.rb.cell (i := 0) (u := .slice none 0 0) rfl
          have r1 := hS.rb.cell (i := 1) (u := .slice none 0 0) rfl
          have r2 := hS.rb.cell (i := 2) (u := .int .i64 0) rfl
          have r3 := hS.rb.cell (i := 3) (u := .int .i64 0) rfl
          have r4 := hS.rb.cell (i := 4) (u := .int .i64 0) rfl
          have r5 := hS.rb.cell (i := 5) (u := .int .i64 0) rfl
          have rl := hS.rb.lt
          have rf := hS.rb.fz
          have HS := Lib.hid hS
          clear hS hOH hOP hown hO hne
          go_wp2_with fail
          try dsimp only
          iterate 60 (first | go_step | skip)
          refine bodyPost_ret (v := .agg #[.slice Ah x.hosts.length ch, .slice Ap x.pods.length cp, .int .i64 x.next, .int .i64 x.weights.pack, .int .i64 x.weights.spread, .int .i64 x.weights.soft]) (by simp [results, Tryz.results38, go_sem, *]) rfl ⟨[.slice Ah x.hosts.length ch, .slice Ap x.pods.length cp, .int .i64 x.next, .int .i64 x.weights.pack, .int .i64 x.weights.spread, .int .i64 x.weights.soft], Gh ++ Gp, rfl, ?_, ?_⟩
          · refine Own.mono (B := w.heap.size + 1 + 1 + 1) ?_ (by omega)
            repeat (first | with_reducible exact HO.out | with_reducible refine Own.setCell ?_ (by dsimp only; omega) _)
          · repeat (first | with_reducible exact HS.out.below | with_reducible refine ext_setCell ?_ (by first | exact Nat.le_refl _ | (dsimp only; omega)) _)

end Go.Proofs.YtjoclfenghenjaaGreat

namespace Go.Proofs.YtjoclfenghenjaaGreat
open Go.ChangeShapes Go.WideShapes Go.ChangeAt Go.RowKit
set_option linter.unusedVariables false
set_option linter.unusedSimpArgs false

theorem ocFar {α : Type} [Dat α] {w : World} {B c i : Nat} {u : Value} {xs : List α} {ds : List Value} {F : List Nat} (h : OwnCells w B xs ds F) (hF : ∀ y ∈ F, y < c) : OwnCells (w.setCell ⟨c, i, none⟩ u) B xs ds F :=
  h.keep (fun y hy => Below.heap_setCell _ _ _ _ (by have := hF y hy; dsimp only; omega)) (by simp [World.setCell])
theorem ownFar {α : Type} [Dat α] {w : World} {B c i : Nat} {u : Value} {x : α} {cs : List Value} {F : List Nat} (h : Own w B x cs F) (hF : ∀ y ∈ F, y < c) : Own (w.setCell ⟨c, i, none⟩ u) B x cs F :=
  h.keep (fun y hy => Below.heap_setCell _ _ _ _ (by have := hF y hy; dsimp only; omega)) (by simp [World.setCell])
set_option maxRecDepth 100000 in
set_option maxHeartbeats 8000000 in
theorem l22Copy_any (x : Cluster) (cs : List Value) (F : List Nat) (w : World) (h : rd w x cs F) (hw : (x.wt : Int) ≤ 1048576) :
    Calls Tryz.prog 33 #[.agg cs.toArray] w fun e w' => ∃ cs F, e = .returned (.agg cs.toArray) ∧ Own w' w.heap.size x cs F ∧ Below w.heap.size w w' := by
  obtain ⟨hhl, hpl, HH, HP⟩ := copy_bounds x hw
  clear hw
  obtain ⟨Ahosts, chosts, Fhosts, Apods, cpods, Fpods, hck, hF0, hhosts, hpods, hnext, hweightspack, hweightsspread, hweightssoft⟩ := rd_Cluster h
  subst hck
  clear hF0 h
  have S0 := Cc.new w [.slice Ahosts x.hosts.length chosts, .slice Apods x.pods.length cpods, .int .i64 x.next, .int .i64 x.weights.pack, .int .i64 x.weights.spread, .int .i64 x.weights.soft] [.slice none 0 0, .slice none 0 0, .int .i64 0, .int .i64 0, .int .i64 0, .int .i64 0] [.slice none 0 0, .slice none 0 0, .int .i64 x.next, .int .i64 x.weights.pack, .int .i64 x.weights.spread, .int .i64 x.weights.soft] 33
  go_enter Tryz.func33, Tryz.ntmps33
  go_wp2_with fail
  go_loopw [4] (fun i wr => ∃ (k : Nat) (ds : List Value) (F' : List Nat) (v : Value), k ≤ x.hosts.length ∧ i = .int .i64 k ∧ wr.ownsRow (w.heap.size + 1 + 1 + 1) 82 6 v k ds ∧ OwnCells wr (w.heap.size + 1 + 1 + 1) (x.hosts.take k) ds F' ∧ (∀ g, v.ownBlock = some g → g ∉ F') ∧ Cc w wr [.slice Ahosts x.hosts.length chosts, .slice Apods x.pods.length cpods, .int .i64 x.next, .int .i64 x.weights.pack, .int .i64 x.weights.spread, .int .i64 x.weights.soft] [.slice none 0 0, .slice none 0 0, .int .i64 0, .int .i64 0, .int .i64 0, .int .i64 0] [v, .slice none 0 0, .int .i64 x.next, .int .i64 x.weights.pack, .int .i64 x.weights.spread, .int .i64 x.weights.soft] ∧ w.heap.size + 1 + 1 + 1 ≤ wr.heap.size) (fun i _ => x.hosts.length - (intOf i).toNat)
  case atStart => exact ⟨0, [], [], .slice none 0 0, Nat.zero_le _, rfl, ⟨rfl, .inl ⟨rfl, rfl⟩⟩, OwnCells.nil _ _, (fun g hg => by simp), S0, by simp [World.setCell]⟩
  case round =>
    obtain ⟨k, ds, F', v, hk, rfl, hown, hO, hne, hS, hBr⟩ := hrel
    by_cases hlt : k < x.hosts.length
    · obtain ⟨b, o, ck, Fk, rfl, hbF, hbs, hr, hsub, hc⟩ := Sl.get (α := Host) hhosts hlt
      have hr0 := hr
      obtain ⟨Alabels1, clabels1, Flabels1, Ataints1, ctaints1, Ftaints1, hck, hF1, hname1, hlabels1, hcpu1, hmem1, hslots1, htaints1⟩ := rd_Host hr
      subst hck
      clear hF1 hr
      have q0 : w.cell? ⟨b, o + k * 6, none⟩ = some (.string x.hosts[k].name) := by exact hc 0 _ rfl
      have p0 := q0
      replace q0 := ((bcell hS.below).1 b _ hbs).trans q0
      have q1 : w.cell? ⟨b, o + k * 6 + 1, none⟩ = some (.slice Alabels1 x.hosts[k].labels.length clabels1) := by rw [Nat.add_assoc]; exact hc 1 _ rfl
      have p1 := q1
      replace q1 := ((bcell hS.below).1 b _ hbs).trans q1
      have q2 : w.cell? ⟨b, o + k * 6 + 2, none⟩ = some (.int .i64 x.hosts[k].cpu) := by rw [Nat.add_assoc]; exact hc 2 _ rfl
      have p2 := q2
      replace q2 := ((bcell hS.below).1 b _ hbs).trans q2
      have q3 : w.cell? ⟨b, o + k * 6 + 3, none⟩ = some (.int .i64 x.hosts[k].mem) := by rw [Nat.add_assoc]; exact hc 3 _ rfl
      have p3 := q3
      replace q3 := ((bcell hS.below).1 b _ hbs).trans q3
      have q4 : w.cell? ⟨b, o + k * 6 + 4, none⟩ = some (.int .i64 x.hosts[k].slots) := by rw [Nat.add_assoc]; exact hc 4 _ rfl
      have p4 := q4
      replace q4 := ((bcell hS.below).1 b _ hbs).trans q4
      have q5 : w.cell? ⟨b, o + k * 6 + 5, none⟩ = some (.slice Ataints1 x.hosts[k].taints.length ctaints1) := by rw [Nat.add_assoc]; exact hc 5 _ rfl
      have p5 := q5
      replace q5 := ((bcell hS.below).1 b _ hbs).trans q5
      obtain ⟨hll, htl⟩ := HH.out x.hosts[k] (List.getElem_mem hlt)
      obtain ⟨Av, cv, hv2⟩ := row_sliceK hown
      subst hv2
      have SD := (hS.ext (ext_refl _)).ext (ext_drew (ext_refl wr))
      have HBX : True := trivial
      have hbd : Below wr.heap.size wr wr.drew := ext_drew (ext_refl _)
      have rd0 := row_ext hown hbd
      have hcd := OwnCells.ext hO hbd
      have hzd := hbd.size
      have HLT := Lib.hid (fun g hg => (hown.lt g hg).2)
      have HLF := Lib.hid hO.lt
      have hrd := Dat.frame hr0 (fun b hb => SD.below.block b (Dat.lt hr0 b hb)) SD.below.size
      have x0 : (fun w' => w'.cell? ⟨w.heap.size + 1 + 1, 0, none⟩ = some (.slice Av k cv) ∧ w'.cell? ⟨w.heap.size, 0, none⟩ = some (.slice (some ⟨b, o, none⟩) x.hosts.length chosts) ∧ w'.cell? ⟨b, o + k * 6, none⟩ = some (.string x.hosts[k].name) ∧ w'.cell? ⟨b, o + k * 6 + 1, none⟩ = some (.slice Alabels1 x.hosts[k].labels.length clabels1) ∧ w'.cell? ⟨b, o + k * 6 + 2, none⟩ = some (.int .i64 x.hosts[k].cpu) ∧ w'.cell? ⟨b, o + k * 6 + 3, none⟩ = some (.int .i64 x.hosts[k].mem) ∧ w'.cell? ⟨b, o + k * 6 + 4, none⟩ = some (.int .i64 x.hosts[k].slots) ∧ w'.cell? ⟨b, o + k * 6 + 5, none⟩ = some (.slice Ataints1 x.hosts[k].taints.length ctaints1)) wr.drew := ⟨SD.ob.cell (i := 0) (u := .slice Av k cv) rfl, SD.box.cell (i := 0) (u := .slice (some ⟨b, o, none⟩) x.hosts.length chosts) rfl, ((bcell SD.below).1 b _ hbs).trans p0, ((bcell SD.below).1 b _ hbs).trans p1, ((bcell SD.below).1 b _ hbs).trans p2, ((bcell SD.below).1 b _ hbs).trans p3, ((bcell SD.below).1 b _ hbs).trans p4, ((bcell SD.below).1 b _ hbs).trans p5⟩
      have HNE := Lib.hid hne
      have hbx0 := hS.box.cell (i := 0) (u := .slice (some ⟨b, o, none⟩) x.hosts.length chosts) rfl
      clear hS hown hO hne hbd
      go_wp2_with fail
      clear hbx0
      refine wp_region_cut (fun w' => w'.cell? ⟨w.heap.size + 1 + 1, 0, none⟩ = some (.slice Av k cv) ∧ w'.cell? ⟨w.heap.size, 0, none⟩ = some (.slice (some ⟨b, o, none⟩) x.hosts.length chosts) ∧ w'.cell? ⟨b, o + k * 6, none⟩ = some (.string x.hosts[k].name) ∧ w'.cell? ⟨b, o + k * 6 + 1, none⟩ = some (.slice Alabels1 x.hosts[k].labels.length clabels1) ∧ w'.cell? ⟨b, o + k * 6 + 2, none⟩ = some (.int .i64 x.hosts[k].cpu) ∧ w'.cell? ⟨b, o + k * 6 + 3, none⟩ = some (.int .i64 x.hosts[k].mem) ∧ w'.cell? ⟨b, o + k * 6 + 4, none⟩ = some (.int .i64 x.hosts[k].slots) ∧ w'.cell? ⟨b, o + k * 6 + 5, none⟩ = some (.slice Ataints1 x.hosts[k].taints.length ctaints1)) [0, 1, 2, 3, 4, 5, 6] [7, 8, 9] [10, 11] (by kernel_rfl) (by kernel_rfl) (fun _ _ d _ _ h => by cases d <;> exact h) x0 ?_
      clear x0
      generalize wr.drew = wd at *
      simp only [pick, List.getElem?_cons_succ, List.getElem?_cons_zero]
      iterate 7
        (apply headC_step
         case hy =>
           refine Or.inl ⟨rfl, fun wq hq => ?_⟩
           obtain ⟨y0, y1, y2, y3, y4, y5, y6, y7⟩ := hq
           go_simp
           try rfl
         simp only [Act.put, List.setIfInBounds_toArray, List.set_cons_zero, List.set_cons_succ])
      refine headC_nil ?_
      refine wpListK_step rfl (fun K hK => ?_)
      go_simp
      refine (l17Host_any x.hosts[k] _ _ _ hrd hll htl).mono ?_
      rintro e w10 ⟨cs10, G10, rfl, hO10, hb10⟩
      have hrh := hO10.rd
      obtain ⟨Alabels7, clabels7, Flabels7, Ataints7, ctaints7, Ftaints7, hck, hGh, hname7, hlabels7, hcpu7, hmem7, hslots7, htaints7⟩ := rd_Host hrh
      subst hck
      clear hrh hGh
      have S10 := SD.ext hb10
      have HB10 := trivial
      have x0 : (fun w' => w'.cell? ⟨w.heap.size + 1 + 1, 0, none⟩ = some (.slice Av k cv) ∧ w'.cell? ⟨w.heap.size, 0, none⟩ = some (.slice (some ⟨b, o, none⟩) x.hosts.length chosts) ∧ w'.cell? ⟨b, o + k * 6, none⟩ = some (.string x.hosts[k].name) ∧ w'.cell? ⟨b, o + k * 6 + 1, none⟩ = some (.slice Alabels1 x.hosts[k].labels.length clabels1) ∧ w'.cell? ⟨b, o + k * 6 + 2, none⟩ = some (.int .i64 x.hosts[k].cpu) ∧ w'.cell? ⟨b, o + k * 6 + 3, none⟩ = some (.int .i64 x.hosts[k].mem) ∧ w'.cell? ⟨b, o + k * 6 + 4, none⟩ = some (.int .i64 x.hosts[k].slots) ∧ w'.cell? ⟨b, o + k * 6 + 5, none⟩ = some (.slice Ataints1 x.hosts[k].taints.length ctaints1)) w10 := ⟨S10.ob.cell (i := 0) (u := .slice Av k cv) rfl, S10.box.cell (i := 0) (u := .slice (some ⟨b, o, none⟩) x.hosts.length chosts) rfl, ((bcell S10.below).1 b _ hbs).trans p0, ((bcell S10.below).1 b _ hbs).trans p1, ((bcell S10.below).1 b _ hbs).trans p2, ((bcell S10.below).1 b _ hbs).trans p3, ((bcell S10.below).1 b _ hbs).trans p4, ((bcell S10.below).1 b _ hbs).trans p5⟩
      refine hK _ _ x0 ?_
      try simp only [Act.put, List.setIfInBounds_toArray, List.set_cons_zero, List.set_cons_succ]
      clear hK K
      clear x0
      refine wpListK_step rfl (fun K hK => ?_)
      go_simp
      have S10a := S10.ext (ext_alloc (ext_refl _) (.cells ([.string x.hosts[k].name, .slice Alabels7 x.hosts[k].labels.length clabels7, .int .i64 x.hosts[k].cpu, .int .i64 x.hosts[k].mem, .int .i64 x.hosts[k].slots, .slice Ataints7 x.hosts[k].taints.length ctaints7] : List Value).toArray 82))
      have HB10a := trivial
      have x0 : (fun w' => w'.cell? ⟨w.heap.size + 1 + 1, 0, none⟩ = some (.slice Av k cv) ∧ w'.cell? ⟨w.heap.size, 0, none⟩ = some (.slice (some ⟨b, o, none⟩) x.hosts.length chosts) ∧ w'.cell? ⟨b, o + k * 6, none⟩ = some (.string x.hosts[k].name) ∧ w'.cell? ⟨b, o + k * 6 + 1, none⟩ = some (.slice Alabels1 x.hosts[k].labels.length clabels1) ∧ w'.cell? ⟨b, o + k * 6 + 2, none⟩ = some (.int .i64 x.hosts[k].cpu) ∧ w'.cell? ⟨b, o + k * 6 + 3, none⟩ = some (.int .i64 x.hosts[k].mem) ∧ w'.cell? ⟨b, o + k * 6 + 4, none⟩ = some (.int .i64 x.hosts[k].slots) ∧ w'.cell? ⟨b, o + k * 6 + 5, none⟩ = some (.slice Ataints1 x.hosts[k].taints.length ctaints1)) (w10.alloc (.cells ([.string x.hosts[k].name, .slice Alabels7 x.hosts[k].labels.length clabels7, .int .i64 x.hosts[k].cpu, .int .i64 x.hosts[k].mem, .int .i64 x.hosts[k].slots, .slice Ataints7 x.hosts[k].taints.length ctaints7] : List Value).toArray 82)) := ⟨S10a.ob.cell (i := 0) (u := .slice Av k cv) rfl, S10a.box.cell (i := 0) (u := .slice (some ⟨b, o, none⟩) x.hosts.length chosts) rfl, ((bcell S10a.below).1 b _ hbs).trans p0, ((bcell S10a.below).1 b _ hbs).trans p1, ((bcell S10a.below).1 b _ hbs).trans p2, ((bcell S10a.below).1 b _ hbs).trans p3, ((bcell S10a.below).1 b _ hbs).trans p4, ((bcell S10a.below).1 b _ hbs).trans p5⟩
      refine hK _ _ x0 ?_
      try simp only [Act.put, List.setIfInBounds_toArray, List.set_cons_zero, List.set_cons_succ]
      clear hK K
      clear x0 S10a HB10a
      have r10 := row_ext rd0 hb10
      have HR10 := Lib.hid r10
      have HC10 := Lib.hid (OwnCells.ext hcd hb10)
      have HS10 := Lib.hid S10
      have HHB := Lib.hid HB10
      have HO10 := Lib.hid hO10
      have hz10 : wr.heap.size ≤ w10.heap.size := Nat.le_trans hzd hb10.size
      clear SD rd0 hcd S10 hO10 hb10 HBX HB10 hrd
      refine wpListK_step rfl (fun K hK => ?_)
      refine wp_appendK elCHost _ _ (by rfl) _ _ _ _ _ r10 (by rfl) [.string x.hosts[k].name, .slice Alabels7 x.hosts[k].labels.length clabels7, .int .i64 x.hosts[k].cpu, .int .i64 x.hosts[k].mem, .int .i64 x.hosts[k].slots, .slice Ataints7 x.hosts[k].taints.length ctaints7] (by first | rfl | (simp; rfl)) (by rfl) (by simp [Value.oneCell']) (by omega) (by omega) (by omega) ?_
      intro v6 w11 hown11 hg11 hz11 hat11
      obtain ⟨A7, c7, hv6⟩ := row_sliceK hown11
      subst hv6
      have S11 := HS10.out.grown hg11 (fun q hq => by have := (r10.lt q hq).1; omega)
      have HB11 := trivial
      have x0 : (fun w' => w'.cell? ⟨w.heap.size + 1 + 1, 0, none⟩ = some (.slice Av k cv) ∧ w'.cell? ⟨w.heap.size, 0, none⟩ = some (.slice (some ⟨b, o, none⟩) x.hosts.length chosts) ∧ w'.cell? ⟨b, o + k * 6, none⟩ = some (.string x.hosts[k].name) ∧ w'.cell? ⟨b, o + k * 6 + 1, none⟩ = some (.slice Alabels1 x.hosts[k].labels.length clabels1) ∧ w'.cell? ⟨b, o + k * 6 + 2, none⟩ = some (.int .i64 x.hosts[k].cpu) ∧ w'.cell? ⟨b, o + k * 6 + 3, none⟩ = some (.int .i64 x.hosts[k].mem) ∧ w'.cell? ⟨b, o + k * 6 + 4, none⟩ = some (.int .i64 x.hosts[k].slots) ∧ w'.cell? ⟨b, o + k * 6 + 5, none⟩ = some (.slice Ataints1 x.hosts[k].taints.length ctaints1)) w11 := ⟨S11.ob.cell (i := 0) (u := .slice Av k cv) rfl, S11.box.cell (i := 0) (u := .slice (some ⟨b, o, none⟩) x.hosts.length chosts) rfl, ((bcell S11.below).1 b _ hbs).trans p0, ((bcell S11.below).1 b _ hbs).trans p1, ((bcell S11.below).1 b _ hbs).trans p2, ((bcell S11.below).1 b _ hbs).trans p3, ((bcell S11.below).1 b _ hbs).trans p4, ((bcell S11.below).1 b _ hbs).trans p5⟩
      have fx := S11.ob.fz 0
      have lx := S11.ob.lt
      refine hK _ _ x0 ?_
      try simp only [Act.put, List.setIfInBounds_toArray, List.set_cons_zero, List.set_cons_succ]
      clear hK K
      replace x0 := x0.1
      refine wpListK_nil ?_
      go_wp2
      obtain ⟨hcs12, hne12⟩ := OwnCells.pushK (v' := .slice A7 (k + 1) c7) HR10.out HC10.out HNE.out HO10.out (by omega) (fun g hg => by have := HLT.out g hg; omega) (fun y hy => by have := HLF.out y hy; omega) hg11 hat11
      rw [← List.take_succ_eq_append_getElem hlt] at hcs12
      have r13 := row_setK (c := w.heap.size + 1 + 1) (i := 0) (u := .slice A7 (k + 1) c7) hown11 (fun g hg => by have := (hown11.lt g hg).1; omega)
      refine ⟨⟨k + 1, _, _, .slice A7 (k + 1) c7, by omega, by go_num, r13, hcs12.setCell (p := ⟨w.heap.size + 1 + 1, 0, none⟩) (by show w.heap.size + 1 + 1 < _; omega) _, hne12, S11.put 0 (.slice A7 (k + 1) c7), by have := hg11.size; simp only [World.setCell, Array.size_modify] at *; omega⟩, by simp [intOf]; omega⟩
    · have hkl : k = x.hosts.length := by omega
      subst hkl
      rw [List.take_length] at hO
      obtain ⟨Ah, ch, Gh, rfl, hOH⟩ := Own.of_row hown hO hne
      obtain ⟨B4, hB4⟩ : ∃ B4, wr.heap.size = B4 := ⟨_, rfl⟩
      have HG4 := Lib.hid (show ∀ y ∈ Gh, y < B4 from fun y hy => hB4 ▸ hOH.lt y hy)
      have hB4s : B4 ≤ wr.heap.size := Nat.le_of_eq hB4.symm
      have hB34 : w.heap.size + 1 + 1 + 1 ≤ B4 := by omega
      have hbx0 := hS.box.cell (i := 0) (u := .slice Ahosts x.hosts.length chosts) rfl
      have hbx1 := hS.box.cell (i := 1) (u := .slice Apods x.pods.length cpods) rfl
      clear hB4 hown hO hne
      go_wp2_with fail
      clear hbx0 hbx1
      go_loopw [5] (fun i wr => ∃ (k : Nat) (ds : List Value) (F' : List Nat) (v : Value), k ≤ x.pods.length ∧ i = .int .i64 k ∧ wr.ownsRow B4 78 9 v k ds ∧ OwnCells wr B4 (x.pods.take k) ds F' ∧ (∀ g, v.ownBlock = some g → g ∉ F') ∧ Own wr (w.heap.size + 1 + 1 + 1) x.hosts [.slice Ah x.hosts.length ch] Gh ∧ Cc w wr [.slice Ahosts x.hosts.length chosts, .slice Apods x.pods.length cpods, .int .i64 x.next, .int .i64 x.weights.pack, .int .i64 x.weights.spread, .int .i64 x.weights.soft] [.slice none 0 0, .slice none 0 0, .int .i64 0, .int .i64 0, .int .i64 0, .int .i64 0] [.slice Ah x.hosts.length ch, v, .int .i64 x.next, .int .i64 x.weights.pack, .int .i64 x.weights.spread, .int .i64 x.weights.soft] ∧ B4 ≤ wr.heap.size) (fun i _ => x.pods.length - (intOf i).toNat)
      case atStart => exact ⟨0, [], [], .slice none 0 0, Nat.zero_le _, rfl, ⟨rfl, .inl ⟨rfl, rfl⟩⟩, OwnCells.nil _ _, (fun g hg => by simp), hOH, hS, hB4s⟩
      case round =>
        clear hS hOH hB4s hBr
        obtain ⟨k, ds, F', v, hk, rfl, hown, hO, hne, hOH, hS, hBr⟩ := hrel
        by_cases hlt : k < x.pods.length
        · obtain ⟨b, o, ck, Fk, rfl, hbF, hbs, hr, hsub, hc⟩ := Sl.get (α := Placed) hpods hlt
          obtain ⟨c1, c2, F1, F2, rfl, rfl, hrp, _, _, _, _, rfl, rfl, ⟨rfl, rfl, hon⟩, ⟨rfl, rfl, hseq⟩⟩ := hr
          have hrp0 := hrp
          obtain ⟨Alabels1, clabels1, Flabels1, Aneeds1, cneeds1, Fneeds1, Atolerances1, ctolerances1, Ftolerances1, hck, hF1, hname1, hlabels1, hcpu1, hmem1, hrank1, hneeds1, htolerances1⟩ := rd_Pod hrp
          subst hck
          clear hF1 hrp
          have q0 : w.cell? ⟨b, o + k * 9, none⟩ = some (.string x.pods[k].pod.name) := by exact hc 0 _ rfl
          replace q0 := ((bcell hS.below).1 b _ hbs).trans q0
          have q1 : w.cell? ⟨b, o + k * 9 + 1, none⟩ = some (.slice Alabels1 x.pods[k].pod.labels.length clabels1) := by rw [Nat.add_assoc]; exact hc 1 _ rfl
          replace q1 := ((bcell hS.below).1 b _ hbs).trans q1
          have q2 : w.cell? ⟨b, o + k * 9 + 2, none⟩ = some (.int .i64 x.pods[k].pod.cpu) := by rw [Nat.add_assoc]; exact hc 2 _ rfl
          replace q2 := ((bcell hS.below).1 b _ hbs).trans q2
          have q3 : w.cell? ⟨b, o + k * 9 + 3, none⟩ = some (.int .i64 x.pods[k].pod.mem) := by rw [Nat.add_assoc]; exact hc 3 _ rfl
          replace q3 := ((bcell hS.below).1 b _ hbs).trans q3
          have q4 : w.cell? ⟨b, o + k * 9 + 4, none⟩ = some (.int .i64 x.pods[k].pod.rank) := by rw [Nat.add_assoc]; exact hc 4 _ rfl
          replace q4 := ((bcell hS.below).1 b _ hbs).trans q4
          have q5 : w.cell? ⟨b, o + k * 9 + 5, none⟩ = some (.slice Aneeds1 x.pods[k].pod.needs.length cneeds1) := by rw [Nat.add_assoc]; exact hc 5 _ rfl
          replace q5 := ((bcell hS.below).1 b _ hbs).trans q5
          have q6 : w.cell? ⟨b, o + k * 9 + 6, none⟩ = some (.slice Atolerances1 x.pods[k].pod.tolerances.length ctolerances1) := by rw [Nat.add_assoc]; exact hc 6 _ rfl
          replace q6 := ((bcell hS.below).1 b _ hbs).trans q6
          have q7 : w.cell? ⟨b, o + k * 9 + 7, none⟩ = some (.string x.pods[k].on) := by rw [Nat.add_assoc]; exact hc 7 _ rfl
          replace q7 := ((bcell hS.below).1 b _ hbs).trans q7
          have q8 : w.cell? ⟨b, o + k * 9 + 8, none⟩ = some (.int .i64 x.pods[k].seq) := by rw [Nat.add_assoc]; exact hc 8 _ rfl
          replace q8 := ((bcell hS.below).1 b _ hbs).trans q8
          clear hc
          obtain ⟨hl1, hl2, hl3, hvv⟩ := HP.out x.pods[k] (List.getElem_mem hlt)
          have HVV := Lib.hid hvv
          obtain ⟨Av, cv, hv2⟩ := row_sliceK hown
          subst hv2
          clear hvv
          have SD := hS.ext (ext_alloc (ext_refl _) (.cells ([.string x.pods[k].pod.name, .slice Alabels1 x.pods[k].pod.labels.length clabels1, .int .i64 x.pods[k].pod.cpu, .int .i64 x.pods[k].pod.mem, .int .i64 x.pods[k].pod.rank, .slice Aneeds1 x.pods[k].pod.needs.length cneeds1, .slice Atolerances1 x.pods[k].pod.tolerances.length ctolerances1, .string x.pods[k].on, .int .i64 x.pods[k].seq] : List Value).toArray 78))
          have HBX : Blk (wr.alloc (.cells ([.string x.pods[k].pod.name, .slice Alabels1 x.pods[k].pod.labels.length clabels1, .int .i64 x.pods[k].pod.cpu, .int .i64 x.pods[k].pod.mem, .int .i64 x.pods[k].pod.rank, .slice Aneeds1 x.pods[k].pod.needs.length cneeds1, .slice Atolerances1 x.pods[k].pod.tolerances.length ctolerances1, .string x.pods[k].on, .int .i64 x.pods[k].seq] : List Value).toArray 78)) wr.heap.size [.string x.pods[k].pod.name, .slice Alabels1 x.pods[k].pod.labels.length clabels1, .int .i64 x.pods[k].pod.cpu, .int .i64 x.pods[k].pod.mem, .int .i64 x.pods[k].pod.rank, .slice Aneeds1 x.pods[k].pod.needs.length cneeds1, .slice Atolerances1 x.pods[k].pod.tolerances.length ctolerances1, .string x.pods[k].on, .int .i64 x.pods[k].seq] := Blk.new wr [.string x.pods[k].pod.name, .slice Alabels1 x.pods[k].pod.labels.length clabels1, .int .i64 x.pods[k].pod.cpu, .int .i64 x.pods[k].pod.mem, .int .i64 x.pods[k].pod.rank, .slice Aneeds1 x.pods[k].pod.needs.length cneeds1, .slice Atolerances1 x.pods[k].pod.tolerances.length ctolerances1, .string x.pods[k].on, .int .i64 x.pods[k].seq] 78
          have hbd : Below wr.heap.size wr (wr.alloc (.cells ([.string x.pods[k].pod.name, .slice Alabels1 x.pods[k].pod.labels.length clabels1, .int .i64 x.pods[k].pod.cpu, .int .i64 x.pods[k].pod.mem, .int .i64 x.pods[k].pod.rank, .slice Aneeds1 x.pods[k].pod.needs.length cneeds1, .slice Atolerances1 x.pods[k].pod.tolerances.length ctolerances1, .string x.pods[k].on, .int .i64 x.pods[k].seq] : List Value).toArray 78)) := ext_alloc (ext_refl _) _
          have rd0 := row_ext hown hbd
          have hcd := OwnCells.ext hO hbd
          have hod := Own.ext hOH hbd
          have hzd := hbd.size
          have HLT := Lib.hid (fun g hg => (hown.lt g hg).2)
          have HLF := Lib.hid hO.lt
          have hrd := Dat.frame hrp0 (fun b hb => SD.below.block b (Dat.lt hrp0 b hb)) SD.below.size
          have HNE := Lib.hid hne
          have hbx0 := hS.box.cell (i := 1) (u := .slice (some ⟨b, o, none⟩) x.pods.length cpods) rfl
          have hlz := hS.lt
          clear hS hown hO hne hbd hOH
          go_wp2_with fail
          clear hbx0
          refine (l17Pod_any x.pods[k].pod _ _ _ hrd hl1 hl2 hl3 HVV.out).mono ?_
          rintro e w10 ⟨cs10, G10, rfl, hO10, hb10⟩
          have hrh := hO10.rd
          obtain ⟨Alabels7, clabels7, Flabels7, Aneeds7, cneeds7, Fneeds7, Atolerances7, ctolerances7, Ftolerances7, hck, hGh, hname7, hlabels7, hcpu7, hmem7, hrank7, hneeds7, htolerances7⟩ := rd_Pod hrh
          subst hck
          clear hrh hGh
          have S10 := SD.ext hb10
          have HB10 := HBX.ext hb10
          have r10 := row_ext rd0 hb10
          have hz10 : wr.heap.size < w10.heap.size := HB10.lt
          have hc10 := OwnCells.ext hcd hb10
          have ho10 := Own.ext hod hb10
          have k0 := HB10.cell (i := 0) (u := .string x.pods[k].pod.name) rfl
          have k1 := HB10.cell (i := 1) (u := .slice Alabels1 x.pods[k].pod.labels.length clabels1) rfl
          have k2 := HB10.cell (i := 2) (u := .int .i64 x.pods[k].pod.cpu) rfl
          have k3 := HB10.cell (i := 3) (u := .int .i64 x.pods[k].pod.mem) rfl
          have k4 := HB10.cell (i := 4) (u := .int .i64 x.pods[k].pod.rank) rfl
          have k5 := HB10.cell (i := 5) (u := .slice Aneeds1 x.pods[k].pod.needs.length cneeds1) rfl
          have k6 := HB10.cell (i := 6) (u := .slice Atolerances1 x.pods[k].pod.tolerances.length ctolerances1) rfl
          have k7 := HB10.cell (i := 7) (u := .string x.pods[k].on) rfl
          have k8 := HB10.cell (i := 8) (u := .int .i64 x.pods[k].seq) rfl
          have kf := HB10.fz
          have ko := S10.ob.cell (i := 1) (u := .slice Av k cv) rfl
          have hlp : Own w10 (wr.heap.size + 1) x.pods[k] [.string x.pods[k].pod.name, .slice Alabels7 x.pods[k].pod.labels.length clabels7, .int .i64 x.pods[k].pod.cpu, .int .i64 x.pods[k].pod.mem, .int .i64 x.pods[k].pod.rank, .slice Aneeds7 x.pods[k].pod.needs.length cneeds7, .slice Atolerances7 x.pods[k].pod.tolerances.length ctolerances7, .string x.pods[k].on, .int .i64 x.pods[k].seq] G10 := (Own.placedK hO10 hon hseq).mono (B' := wr.heap.size + 1) (by simp)
          have T10 : Cc w (((((((w10.setCell ⟨wr.heap.size, 0, none⟩ (.string x.pods[k].pod.name)).setCell ⟨wr.heap.size, 1, none⟩ (.slice Alabels7 x.pods[k].pod.labels.length clabels7)).setCell ⟨wr.heap.size, 2, none⟩ (.int .i64 x.pods[k].pod.cpu)).setCell ⟨wr.heap.size, 3, none⟩ (.int .i64 x.pods[k].pod.mem)).setCell ⟨wr.heap.size, 4, none⟩ (.int .i64 x.pods[k].pod.rank)).setCell ⟨wr.heap.size, 5, none⟩ (.slice Aneeds7 x.pods[k].pod.needs.length cneeds7)).setCell ⟨wr.heap.size, 6, none⟩ (.slice Atolerances7 x.pods[k].pod.tolerances.length ctolerances7)) [.slice Ahosts x.hosts.length chosts, .slice (some ⟨b, o, none⟩) x.pods.length cpods, .int .i64 x.next, .int .i64 x.weights.pack, .int .i64 x.weights.spread, .int .i64 x.weights.soft] [.slice none 0 0, .slice none 0 0, .int .i64 0, .int .i64 0, .int .i64 0, .int .i64 0] [.slice Ah x.hosts.length ch, .slice Av k cv, .int .i64 x.next, .int .i64 x.weights.pack, .int .i64 x.weights.spread, .int .i64 x.weights.soft] := (((((((S10.far (c := wr.heap.size) (by omega) 0 (.string x.pods[k].pod.name)).far (c := wr.heap.size) (by omega) 1 (.slice Alabels7 x.pods[k].pod.labels.length clabels7)).far (c := wr.heap.size) (by omega) 2 (.int .i64 x.pods[k].pod.cpu)).far (c := wr.heap.size) (by omega) 3 (.int .i64 x.pods[k].pod.mem)).far (c := wr.heap.size) (by omega) 4 (.int .i64 x.pods[k].pod.rank)).far (c := wr.heap.size) (by omega) 5 (.slice Aneeds7 x.pods[k].pod.needs.length cneeds7)).far (c := wr.heap.size) (by omega) 6 (.slice Atolerances7 x.pods[k].pod.tolerances.length ctolerances7))
          have HB11' := (((((((HB10.put 0 (.string x.pods[k].pod.name)).put 1 (.slice Alabels7 x.pods[k].pod.labels.length clabels7)).put 2 (.int .i64 x.pods[k].pod.cpu)).put 3 (.int .i64 x.pods[k].pod.mem)).put 4 (.int .i64 x.pods[k].pod.rank)).put 5 (.slice Aneeds7 x.pods[k].pod.needs.length cneeds7)).put 6 (.slice Atolerances7 x.pods[k].pod.tolerances.length ctolerances7))
          have r11' : ((((((((w10.setCell ⟨wr.heap.size, 0, none⟩ (.string x.pods[k].pod.name)).setCell ⟨wr.heap.size, 1, none⟩ (.slice Alabels7 x.pods[k].pod.labels.length clabels7)).setCell ⟨wr.heap.size, 2, none⟩ (.int .i64 x.pods[k].pod.cpu)).setCell ⟨wr.heap.size, 3, none⟩ (.int .i64 x.pods[k].pod.mem)).setCell ⟨wr.heap.size, 4, none⟩ (.int .i64 x.pods[k].pod.rank)).setCell ⟨wr.heap.size, 5, none⟩ (.slice Aneeds7 x.pods[k].pod.needs.length cneeds7)).setCell ⟨wr.heap.size, 6, none⟩ (.slice Atolerances7 x.pods[k].pod.tolerances.length ctolerances7))).ownsRow B4 78 9 (.slice Av k cv) k ds := (row_setK (c := wr.heap.size) (i := 6) (u := .slice Atolerances7 x.pods[k].pod.tolerances.length ctolerances7) (row_setK (c := wr.heap.size) (i := 5) (u := .slice Aneeds7 x.pods[k].pod.needs.length cneeds7) (row_setK (c := wr.heap.size) (i := 4) (u := .int .i64 x.pods[k].pod.rank) (row_setK (c := wr.heap.size) (i := 3) (u := .int .i64 x.pods[k].pod.mem) (row_setK (c := wr.heap.size) (i := 2) (u := .int .i64 x.pods[k].pod.cpu) (row_setK (c := wr.heap.size) (i := 1) (u := .slice Alabels7 x.pods[k].pod.labels.length clabels7) (row_setK (c := wr.heap.size) (i := 0) (u := .string x.pods[k].pod.name) r10 (fun g hg => by have := HLT.out g hg; omega)) (fun g hg => by have := HLT.out g hg; omega)) (fun g hg => by have := HLT.out g hg; omega)) (fun g hg => by have := HLT.out g hg; omega)) (fun g hg => by have := HLT.out g hg; omega)) (fun g hg => by have := HLT.out g hg; omega)) (fun g hg => by have := HLT.out g hg; omega))
          have c11' : OwnCells ((((((((w10.setCell ⟨wr.heap.size, 0, none⟩ (.string x.pods[k].pod.name)).setCell ⟨wr.heap.size, 1, none⟩ (.slice Alabels7 x.pods[k].pod.labels.length clabels7)).setCell ⟨wr.heap.size, 2, none⟩ (.int .i64 x.pods[k].pod.cpu)).setCell ⟨wr.heap.size, 3, none⟩ (.int .i64 x.pods[k].pod.mem)).setCell ⟨wr.heap.size, 4, none⟩ (.int .i64 x.pods[k].pod.rank)).setCell ⟨wr.heap.size, 5, none⟩ (.slice Aneeds7 x.pods[k].pod.needs.length cneeds7)).setCell ⟨wr.heap.size, 6, none⟩ (.slice Atolerances7 x.pods[k].pod.tolerances.length ctolerances7))) B4 (x.pods.take k) ds F' := (ocFar (c := wr.heap.size) (i := 6) (u := .slice Atolerances7 x.pods[k].pod.tolerances.length ctolerances7) (ocFar (c := wr.heap.size) (i := 5) (u := .slice Aneeds7 x.pods[k].pod.needs.length cneeds7) (ocFar (c := wr.heap.size) (i := 4) (u := .int .i64 x.pods[k].pod.rank) (ocFar (c := wr.heap.size) (i := 3) (u := .int .i64 x.pods[k].pod.mem) (ocFar (c := wr.heap.size) (i := 2) (u := .int .i64 x.pods[k].pod.cpu) (ocFar (c := wr.heap.size) (i := 1) (u := .slice Alabels7 x.pods[k].pod.labels.length clabels7) (ocFar (c := wr.heap.size) (i := 0) (u := .string x.pods[k].pod.name) hc10 HLF.out) HLF.out) HLF.out) HLF.out) HLF.out) HLF.out) HLF.out)
          have o11' : Own ((((((((w10.setCell ⟨wr.heap.size, 0, none⟩ (.string x.pods[k].pod.name)).setCell ⟨wr.heap.size, 1, none⟩ (.slice Alabels7 x.pods[k].pod.labels.length clabels7)).setCell ⟨wr.heap.size, 2, none⟩ (.int .i64 x.pods[k].pod.cpu)).setCell ⟨wr.heap.size, 3, none⟩ (.int .i64 x.pods[k].pod.mem)).setCell ⟨wr.heap.size, 4, none⟩ (.int .i64 x.pods[k].pod.rank)).setCell ⟨wr.heap.size, 5, none⟩ (.slice Aneeds7 x.pods[k].pod.needs.length cneeds7)).setCell ⟨wr.heap.size, 6, none⟩ (.slice Atolerances7 x.pods[k].pod.tolerances.length ctolerances7))) (w.heap.size + 1 + 1 + 1) x.hosts [.slice Ah x.hosts.length ch] Gh := (ownFar (c := wr.heap.size) (i := 6) (u := .slice Atolerances7 x.pods[k].pod.tolerances.length ctolerances7) (ownFar (c := wr.heap.size) (i := 5) (u := .slice Aneeds7 x.pods[k].pod.needs.length cneeds7) (ownFar (c := wr.heap.size) (i := 4) (u := .int .i64 x.pods[k].pod.rank) (ownFar (c := wr.heap.size) (i := 3) (u := .int .i64 x.pods[k].pod.mem) (ownFar (c := wr.heap.size) (i := 2) (u := .int .i64 x.pods[k].pod.cpu) (ownFar (c := wr.heap.size) (i := 1) (u := .slice Alabels7 x.pods[k].pod.labels.length clabels7) (ownFar (c := wr.heap.size) (i := 0) (u := .string x.pods[k].pod.name) ho10 (fun y hy => by have := HG4.out y hy; omega)) (fun y hy => by have := HG4.out y hy; omega)) (fun y hy => by have := HG4.out y hy; omega)) (fun y hy => by have := HG4.out y hy; omega)) (fun y hy => by have := HG4.out y hy; omega)) (fun y hy => by have := HG4.out y hy; omega)) (fun y hy => by have := HG4.out y hy; omega))
          have p11' : Own ((((((((w10.setCell ⟨wr.heap.size, 0, none⟩ (.string x.pods[k].pod.name)).setCell ⟨wr.heap.size, 1, none⟩ (.slice Alabels7 x.pods[k].pod.labels.length clabels7)).setCell ⟨wr.heap.size, 2, none⟩ (.int .i64 x.pods[k].pod.cpu)).setCell ⟨wr.heap.size, 3, none⟩ (.int .i64 x.pods[k].pod.mem)).setCell ⟨wr.heap.size, 4, none⟩ (.int .i64 x.pods[k].pod.rank)).setCell ⟨wr.heap.size, 5, none⟩ (.slice Aneeds7 x.pods[k].pod.needs.length cneeds7)).setCell ⟨wr.heap.size, 6, none⟩ (.slice Atolerances7 x.pods[k].pod.tolerances.length ctolerances7))) (wr.heap.size + 1) x.pods[k] [.string x.pods[k].pod.name, .slice Alabels7 x.pods[k].pod.labels.length clabels7, .int .i64 x.pods[k].pod.cpu, .int .i64 x.pods[k].pod.mem, .int .i64 x.pods[k].pod.rank, .slice Aneeds7 x.pods[k].pod.needs.length cneeds7, .slice Atolerances7 x.pods[k].pod.tolerances.length ctolerances7, .string x.pods[k].on, .int .i64 x.pods[k].seq] G10 := (Own.setCell (p := ⟨wr.heap.size, 6, none⟩) (Own.setCell (p := ⟨wr.heap.size, 5, none⟩) (Own.setCell (p := ⟨wr.heap.size, 4, none⟩) (Own.setCell (p := ⟨wr.heap.size, 3, none⟩) (Own.setCell (p := ⟨wr.heap.size, 2, none⟩) (Own.setCell (p := ⟨wr.heap.size, 1, none⟩) (Own.setCell (p := ⟨wr.heap.size, 0, none⟩) hlp (by dsimp only; omega) (.string x.pods[k].pod.name)) (by dsimp only; omega) (.slice Alabels7 x.pods[k].pod.labels.length clabels7)) (by dsimp only; omega) (.int .i64 x.pods[k].pod.cpu)) (by dsimp only; omega) (.int .i64 x.pods[k].pod.mem)) (by dsimp only; omega) (.int .i64 x.pods[k].pod.rank)) (by dsimp only; omega) (.slice Aneeds7 x.pods[k].pod.needs.length cneeds7)) (by dsimp only; omega) (.slice Atolerances7 x.pods[k].pod.tolerances.length ctolerances7))
          have z11' : ((((((((w10.setCell ⟨wr.heap.size, 0, none⟩ (.string x.pods[k].pod.name)).setCell ⟨wr.heap.size, 1, none⟩ (.slice Alabels7 x.pods[k].pod.labels.length clabels7)).setCell ⟨wr.heap.size, 2, none⟩ (.int .i64 x.pods[k].pod.cpu)).setCell ⟨wr.heap.size, 3, none⟩ (.int .i64 x.pods[k].pod.mem)).setCell ⟨wr.heap.size, 4, none⟩ (.int .i64 x.pods[k].pod.rank)).setCell ⟨wr.heap.size, 5, none⟩ (.slice Aneeds7 x.pods[k].pod.needs.length cneeds7)).setCell ⟨wr.heap.size, 6, none⟩ (.slice Atolerances7 x.pods[k].pod.tolerances.length ctolerances7))).heap.size = w10.heap.size := by simp [World.setCell]
          have HT := Lib.hid T10
          have HB := Lib.hid HB11'
          have HR10 := Lib.hid r11'
          have HC10 := Lib.hid c11'
          have HOHd := Lib.hid o11'
          have HO10 := Lib.hid p11'
          have HZ := Lib.hid z11'
          clear SD rd0 hcd hod hrd HBX T10 HB11' r11' c11' o11' p11' z11' hc10 ho10 hlp S10 HB10 r10 hO10 hb10
          dsimp only
          iterate 24 (first | go_step | skip)
          refine wp_appendK elCPlaced _ _ (by rfl) (((((((w10.setCell ⟨wr.heap.size, 0, none⟩ (.string x.pods[k].pod.name)).setCell ⟨wr.heap.size, 1, none⟩ (.slice Alabels7 x.pods[k].pod.labels.length clabels7)).setCell ⟨wr.heap.size, 2, none⟩ (.int .i64 x.pods[k].pod.cpu)).setCell ⟨wr.heap.size, 3, none⟩ (.int .i64 x.pods[k].pod.mem)).setCell ⟨wr.heap.size, 4, none⟩ (.int .i64 x.pods[k].pod.rank)).setCell ⟨wr.heap.size, 5, none⟩ (.slice Aneeds7 x.pods[k].pod.needs.length cneeds7)).setCell ⟨wr.heap.size, 6, none⟩ (.slice Atolerances7 x.pods[k].pod.tolerances.length ctolerances7)) _ _ _ _ HR10.out (by rfl) [.string x.pods[k].pod.name, .slice Alabels7 x.pods[k].pod.labels.length clabels7, .int .i64 x.pods[k].pod.cpu, .int .i64 x.pods[k].pod.mem, .int .i64 x.pods[k].pod.rank, .slice Aneeds7 x.pods[k].pod.needs.length cneeds7, .slice Atolerances7 x.pods[k].pod.tolerances.length ctolerances7, .string x.pods[k].on, .int .i64 x.pods[k].seq] (by rw [HZ.out]; rfl) (by rfl) (by simp [Value.oneCell']) (by omega) (by omega) (by have := HZ.out; omega) ?_
          intro v4 w11 hown11 hg11 hz11 hat11
          obtain ⟨A7, c7, hv6⟩ := row_sliceK hown11
          subst hv6
          have S11 := HT.out.grown hg11 (fun q hq => by have := (HR10.out.lt q hq).1; omega)
          have HOH11 := HOHd.out.grownK hg11 HG4.out (fun q hq => (HR10.out.lt q hq).1)
          have kx := S11.ob.cell (i := 1) (u := .slice Av k cv) rfl
          have fx := S11.ob.fz 1
          have lx := S11.ob.lt
          clear k0 k1 k2 k3 k4 k5 k6 k7 k8 kf ko
          simp only [Act.put, List.setIfInBounds_toArray, List.set_cons_zero, List.set_cons_succ]
          iterate 12 (first | go_step | skip)
          clear hrp0 q0 q1 q2 q3 q4 q5 q6 q7 q8 kx fx
          iterate 12 (first | go_step | skip)
          obtain ⟨hcs12, hne12⟩ := OwnCells.pushK (v' := .slice A7 (k + 1) c7) HR10.out HC10.out HNE.out HO10.out (by omega) (fun g hg => by have := HLT.out g hg; omega) (fun y hy => by have := HLF.out y hy; omega) hg11 hat11
          rw [← List.take_succ_eq_append_getElem hlt] at hcs12
          have r13 := row_setK (c := w.heap.size + 1 + 1) (i := 1) (u := .slice A7 (k + 1) c7) hown11 (fun g hg => by have := (hown11.lt g hg).1; omega)
          refine ⟨⟨k + 1, _, _, .slice A7 (k + 1) c7, by omega, by go_num, r13, hcs12.setCell (p := ⟨w.heap.size + 1 + 1, 1, none⟩) (by show w.heap.size + 1 + 1 < _; omega) _, hne12, HOH11.setCell (p := ⟨w.heap.size + 1 + 1, 1, none⟩) (by show w.heap.size + 1 + 1 < _; omega) _, S11.put 1 (.slice A7 (k + 1) c7), by have := hg11.size; simp only [World.setCell, Array.size_modify] at *; omega⟩, by simp [intOf]; omega⟩
        · have hkl : k = x.pods.length := by omega
          subst hkl
          rw [List.take_length] at hO
          obtain ⟨Ap, cp, Gp, rfl, hOP⟩ := Own.of_row hown hO hne
          have HO := Lib.hid (Own.clusterK hOH hOP (Nat.le_refl _) hB34 HG4.out hnext hweightspack hweightsspread hweightssoft)
          have hbx1 := hS.box.cell (i := 1) (u := .slice Apods x.pods.length cpods) rfl
          have m0 := hS.ob.cell (i := 0) (u := .slice Ah x.hosts.length ch) rfl
          have m1 := hS.ob.cell (i := 1) (u := .slice Ap x.pods.length cp) rfl
          have m2 := hS.ob.cell (i := 2) (u := .int .i64 x.next) rfl
          have m3 := hS.ob.cell (i := 3) (u := .int .i64 x.weights.pack) rfl
          have m4 := hS.ob.cell (i := 4) (u := .int .i64 x.weights.spread) rfl
          have m5 := hS.ob.cell (i := 5) (u := .int .i64 x.weights.soft) rfl
          have r0 := hS.rb.cell (i := 0) (u := .slice none 0 0) rfl
          have r1 := hS.rb.cell (i := 1) (u := .slice none 0 0) rfl
          have r2 := hS.rb.cell (i := 2) (u := .int .i64 0) rfl
          have r3 := hS.rb.cell (i := 3) (u := .int .i64 0) rfl
          have r4 := hS.rb.cell (i := 4) (u := .int .i64 0) rfl
          have r5 := hS.rb.cell (i := 5) (u := .int .i64 0) rfl
          have rl := hS.rb.lt
          have rf := hS.rb.fz
          have HS := Lib.hid hS
          clear hS hOH hOP hown hO hne
          go_wp2_with fail
          try dsimp only
          iterate 60 (first | go_step | skip)
          refine bodyPost_ret (v := .agg #[.slice Ah x.hosts.length ch, .slice Ap x.pods.length cp, .int .i64 x.next, .int .i64 x.weights.pack, .int .i64 x.weights.spread, .int .i64 x.weights.soft]) (by simp [results, Tryz.results33, go_sem, *]) rfl ⟨[.slice Ah x.hosts.length ch, .slice Ap x.pods.length cp, .int .i64 x.next, .int .i64 x.weights.pack, .int .i64 x.weights.spread, .int .i64 x.weights.soft], Gh ++ Gp, rfl, ?_, ?_⟩
          · refine Own.mono (B := w.heap.size + 1 + 1 + 1) ?_ (by omega)
            repeat (first | with_reducible exact HO.out | with_reducible refine Own.setCell ?_ (by dsimp only; omega) _)
          · repeat (first | with_reducible exact HS.out.below | with_reducible refine ext_setCell ?_ (by first | exact Nat.le_refl _ | (dsimp only; omega)) _)

end Go.Proofs.YtjoclfenghenjaaGreat
