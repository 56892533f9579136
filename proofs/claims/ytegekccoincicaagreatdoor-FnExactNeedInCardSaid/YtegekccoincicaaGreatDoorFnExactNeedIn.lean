/- FnExactNeedIn: for every tree and path the program's NeedIn and the reference's answer the same, the program leaves the tree as it was, and what it answers is its own. No condition. -/
import Derived.Test.YtegekccoincicaaGreatDoorNeedInI
import Derived.Test.YtegekccoincicaaGreatDoorNeedInS
import Derived.Test.YtegekccoincicaaGreatDoorMkTree
import Derived.Test.YtegekccoincicaaGreatDoorTreeO
import Derived.Test.YtegekccoincicaaGreatDoorEqTree
import Derived.Test.YtegekccoincicaaGreatDoorTie
import Derived.Test.YtegekccoincicaaGreatDoorCards
import Derived.LaidMore
namespace Go.Proofs.YtegekccoincicaaGreatDoor.fnExactNeedIn
open Dat (rd)
open Go.ChangeShapes Go.WideShapes Go.ChangeAt Go.RowKit
set_option linter.unusedVariables false
set_option linter.unusedSimpArgs false
theorem _root_.Go.Proofs.YtegekccoincicaaGreatDoor.Own.need {w : World} {B : Nat} {k : ByteArray} {op : Int} {vs : List ByteArray} {A : Option Addr} {c : Nat} {G : List Nat} (h : Own w B vs [.slice A vs.length c] G) (hk : k.size ≤ maxLen) (ho : I64 op) : Own w B (⟨k, op, vs⟩ : Need) [.string k, .int .i64 op, .slice A vs.length c] G := by
  refine Own.up (B' := B) (fun x : Need => (x.key, x.op, x.values)) ?_ (Nat.le_refl _)
  exact Own.cons (c1 := [.string k]) (rdStr w k (sz63 hk)) (Own.cons (c1 := [.int .i64 op]) (rdInt w op ho) h)
theorem cntL_strs (xs : List ByteArray) : cntL cntStr xs = xs.length := cntL_str xs
set_option maxRecDepth 100000 in
set_option maxHeartbeats 8000000 in
theorem walk (x : Tree) (cs : List Value) (F : List Nat) (nm : ByteArray) (w : World) (h : rd w x cs F) :
    Calls Tryz.prog 3 #[.agg cs.toArray, .string nm] w fun e w' => e = .returned (.bool true) ∧ Below w.heap.size w w' := by
  by_cases hnm : (1048576 : Int) < nm.size
  · go_enter Tryz.func3, Tryz.ntmps3
    go_wp2
    go_ret
    exact ⟨rfl, (by repeat (first | with_reducible exact ext_refl _ | with_reducible assumption | with_reducible refine ext_alloc ?_ _ | with_reducible refine ext_setCell ?_ (by first | exact Nat.le_refl _ | (simp; done) | omega | (simp; omega)) _ | with_reducible refine ext_drew ?_ | with_reducible refine ext_trans ?_ (by assumption)))⟩
  have hnm2 : (nm.size : Int) ≤ 1048576 := by omega
  by_cases hw : (x.wt : Int) ≤ 1048576
  case neg =>
    have hsz : szR x.wt 1048576 = -1 := by have := szR_spec x.wt 1048576; omega
    have HSZ := Lib.hid hsz
    clear hsz hw
    have hr := h
    obtain ⟨Ak, ck, Fk, Ac, cc, Fc, hck, hF0, hkind, hnum, htext, hkeys, hkids⟩ := rd_Tree hr
    subst hck
    clear hF0 hr
    go_enter Tryz.func3, Tryz.ntmps3
    go_wp2_with fail
    refine (szTree_any x _ _ _ _ (rd_ext h (by repeat (first | with_reducible exact ext_refl _ | with_reducible assumption | with_reducible refine ext_alloc ?_ _ | with_reducible refine ext_setCell ?_ (by first | exact Nat.le_refl _ | (simp; done) | omega | (simp; omega)) _ | with_reducible refine ext_drew ?_ | with_reducible refine ext_trans ?_ (by assumption)))) (by omega) (by omega)).mono ?_
    rw [HSZ.out]
    rintro e w1 ⟨rfl, hb1⟩
    go_wp2
    go_ret
    exact ⟨rfl, (by repeat (first | with_reducible exact ext_refl _ | with_reducible assumption | with_reducible refine ext_alloc ?_ _ | with_reducible refine ext_setCell ?_ (by first | exact Nat.le_refl _ | (simp; done) | omega | (simp; omega)) _ | with_reducible refine ext_drew ?_ | with_reducible refine ext_trans ?_ (by assumption)))⟩
  have hsz : szR x.wt 1048576 = 1048576 - x.wt := by have := szR_spec x.wt 1048576; omega
  have HSZ := Lib.hid hsz
  have hbz : (0 : Int) ≤ 1048576 - x.wt := by omega
  have HSAME := Lib.hid ((eqTree_iff x x).2 rfl)
  have HNM := Lib.hid hnm2
  obtain ⟨v, f, hv⟩ : ∃ v f, needInR x nm = (v, f) := ⟨_, _, rfl⟩
  have KS := Lib.hid (fun wq cq Fq (hq : rd wq x cq Fq) => by have k := NeedIn_spec x cq Fq nm wq hq hw hnm2; rw [needIn_eq, hv] at k; exact k)
  have KI := Lib.hid (fun wq cq Fq (hq : rd wq x cq Fq) => by have k := NeedIn_impl x cq Fq nm wq hq hw hnm2; rw [hv] at k; exact k)
  have hok := needInR_ok x nm hw hnm2
  rw [hv] at hok
  dsimp only at hok
  have HKEY := Lib.hid hok.1
  have HOPI := Lib.hid hok.2.1
  have HRF := Lib.hid (fun (wq : World) => rd_Fault_mk wq f ⟨by have := hok.2.2.1; omega, by have := hok.2.2.2.1; omega⟩ (by rw [hok.2.2.2.2.1]; exact ⟨by decide, by decide⟩) (by have := hok.2.2.2.2.2; unfold maxLen; omega))
  have hcm := hok.2.2.2.2.2
  have hlv : v.values.length ≤ 40 := by have := needInR_len x nm; rw [hv] at this; exact this
  have HLV := Lib.hid (show (1 : Int) + cntTopNeed v ≤ 1073741823 by unfold cntTopNeed; rw [cntL_strs]; omega)
  have HEV := Lib.hid ((eqNeed_iff v v).2 rfl)
  have HEF := Lib.hid ((eqFault_iff f f).2 rfl)
  have HCT := Lib.hid (show (1 : Int) + cntTopTree x ≤ 1073741823 by have := cntTopTree_le x; omega)
  clear hsz hok hv hcm hlv
  have HWT := Lib.hid hw
  clear hw
  have HRX := Lib.hid h
  have hr := h
  obtain ⟨Ak, ck, Fk, Ac, cc, Fc, hck, hF0, hkind, hnum, htext, hkeys, hkids⟩ := rd_Tree hr
  subst hck
  clear hF0 hr hkind hnum htext hkeys hkids
  go_enter Tryz.func3, Tryz.ntmps3
  go_wp2_with fail
  refine (szTree_any x _ _ _ _ (rd_ext h (ext_alloc (ext_refl _) _)) (by omega) (by omega)).mono ?_
  rw [HSZ.out]
  rintro e w1 ⟨rfl, hb⟩
  have HTa := Lib.hid ((Blk.new w [.int .i64 x.kind, .bool x.flag, .int .i64 x.num, .string x.text, .slice Ak x.keys.length ck, .slice Ac x.kids.length cc] 25).ext hb)
  have HWa := Lib.hid (ext_trans (ext_alloc (ext_refl w) (.cells #[.int .i64 x.kind, .bool x.flag, .int .i64 x.num, .string x.text, .slice Ak x.keys.length ck, .slice Ac x.kids.length cc] 25)) hb)
  clear hb h HSZ
  -- 7: the reference
  have kt0 := HTa.out.cell (i := 0) (u := .int .i64 x.kind) rfl
  have kt1 := HTa.out.cell (i := 1) (u := .bool x.flag) rfl
  have kt2 := HTa.out.cell (i := 2) (u := .int .i64 x.num) rfl
  have kt3 := HTa.out.cell (i := 3) (u := .string x.text) rfl
  have kt4 := HTa.out.cell (i := 4) (u := .slice Ak x.keys.length ck) rfl
  have kt5 := HTa.out.cell (i := 5) (u := .slice Ac x.kids.length cc) rfl
  have ft := HTa.out.fz
  have lt := HTa.out.lt
  go_wp2_with fail
  refine (toTree_any x _ _ _ (rd_ext HRX.out HWa.out) HWT.out).mono ?_
  clear kt0 kt1 kt2 kt3 kt4 kt5 ft lt
  rintro e w2 ⟨cs2, G2, rfl, hO, hb⟩
  have hR2 := Lib.hid hO.rd
  obtain ⟨Ak2, ck2, Fk2, Ac2, cc2, Fc2, hck, hG2, hkind2, hnum2, htext2, hkeys2, hkids2⟩ := rd_Tree hO.rd
  subst hck
  clear hG2 hO hkind2 hnum2 htext2 hkeys2 hkids2
  have HTb := Lib.hid (HTa.out.ext hb)
  have HWb := Lib.hid (ext_trans HWa.out hb)
  clear HTa HWa hb
  go_wp2_with fail
  refine (KS.out _ _ _ hR2.out).mono ?_
  rintro e w3 ⟨A3, c3, V3, rfl, hO, hb⟩
  have HVc := Lib.hid ((hO.mono (Nat.zero_le _)).alloc (.cells #[.string v.key, .int .i64 v.op, .slice A3 v.values.length c3] 28) |>.alloc (.cells #[.int .i64 f.code, .int .i64 f.at_, .string f.path] 30))
  have H6c := Lib.hid ((Blk.new w3 [.string v.key, .int .i64 v.op, .slice A3 v.values.length c3] 28).ext (ext_alloc (ext_refl _) (.cells #[.int .i64 f.code, .int .i64 f.at_, .string f.path] 30)))
  have H7c := Lib.hid (show Blk ((w3.alloc (.cells #[.string v.key, .int .i64 v.op, .slice A3 v.values.length c3] 28)).alloc (.cells #[.int .i64 f.code, .int .i64 f.at_, .string f.path] 30)) (w3.heap.size + 1) [.int .i64 f.code, .int .i64 f.at_, .string f.path] from by have h1 := Blk.new (w3.alloc (.cells #[.string v.key, .int .i64 v.op, .slice A3 v.values.length c3] 28)) [.int .i64 f.code, .int .i64 f.at_, .string f.path] 30; rwa [World.size_alloc] at h1)
  replace hb := ext_alloc (ext_alloc hb (.cells #[.string v.key, .int .i64 v.op, .slice A3 v.values.length c3] 28)) (.cells #[.int .i64 f.code, .int .i64 f.at_, .string f.path] 30)
  have HGV := Lib.hid (show ∀ b ∈ V3, b < w3.heap.size from hO.lt)
  clear hO KS
  clear hR2
  have HTc := Lib.hid (HTb.out.ext hb)
  have HWc := Lib.hid (ext_trans HWb.out hb)
  clear HTb HWb hb
  -- 8: the argument
  have kt0 := HTc.out.cell (i := 0) (u := .int .i64 x.kind) rfl
  have kt1 := HTc.out.cell (i := 1) (u := .bool x.flag) rfl
  have kt2 := HTc.out.cell (i := 2) (u := .int .i64 x.num) rfl
  have kt3 := HTc.out.cell (i := 3) (u := .string x.text) rfl
  have kt4 := HTc.out.cell (i := 4) (u := .slice Ak x.keys.length ck) rfl
  have kt5 := HTc.out.cell (i := 5) (u := .slice Ac x.kids.length cc) rfl
  have ft := HTc.out.fz
  have lt := HTc.out.lt
  go_wp2_with fail
  generalize (w3.alloc (.cells #[.string v.key, .int .i64 v.op, .slice A3 v.values.length c3] 28)).alloc (.cells #[.int .i64 f.code, .int .i64 f.at_, .string f.path] 30) = w3c at *
  refine (toTree_any x _ _ _ (rd_ext HRX.out HWc.out) HWT.out).mono ?_
  clear kt0 kt1 kt2 kt3 kt4 kt5 ft lt
  rintro e wd ⟨cs4, G4, rfl, hO, hb⟩
  have hR4 := hO.rd
  obtain ⟨Ak4, ck4, Fk4, Ac4, cc4, Fc4, hck, hG4, hkind4, hnum4, htext4, hkeys4, hkids4⟩ := rd_Tree hR4
  subst hck
  have HXd := Lib.hid hO
  have HGX := Lib.hid (show ∀ b ∈ G4, w3c.heap.size ≤ b ∧ b < wd.heap.size from fun b hb => ⟨hO.base b hb, hO.lt b hb⟩)
  clear hG4 hR4 hO hkind4 hnum4 htext4 hkeys4 hkids4
  have hsc : w3.heap.size + 1 < w3c.heap.size := H7c.out.lt
  have hs0 : w.heap.size < w3c.heap.size := HTc.out.lt
  have HTd := Lib.hid (HTc.out.ext hb)
  have H6d := Lib.hid (H6c.out.ext hb)
  have H7d := Lib.hid (H7c.out.ext hb)
  have HVd := Lib.hid (HVc.out.ext hb)
  have HWd := Lib.hid (ext_trans HWc.out hb)
  have hsd := hb.size
  clear HTc H6c H7c HVc HWc hb
  go_wp2_with fail
  have hbA : Below wd.heap.size wd (wd.alloc (.cells #[.int .i64 x.kind, .bool x.flag, .int .i64 x.num, .string x.text, .slice Ak4 x.keys.length ck4, .slice Ac4 x.kids.length cc4] 35)) := ext_alloc (ext_refl _) (.cells #[.int .i64 x.kind, .bool x.flag, .int .i64 x.num, .string x.text, .slice Ak4 x.keys.length ck4, .slice Ac4 x.kids.length cc4] 35)
  have HTe := Lib.hid (HTd.out.ext hbA)
  have H6e := Lib.hid (H6d.out.ext hbA)
  have H7e := Lib.hid (H7d.out.ext hbA)
  have HVe := Lib.hid (HVd.out.ext hbA)
  have HXe := Lib.hid (HXd.out.ext hbA)
  have HWe := Lib.hid (ext_trans HWd.out hbA)
  have H8e := Lib.hid (show Blk (wd.alloc (.cells #[.int .i64 x.kind, .bool x.flag, .int .i64 x.num, .string x.text, .slice Ak4 x.keys.length ck4, .slice Ac4 x.kids.length cc4] 35)) (wd.heap.size) [.int .i64 x.kind, .bool x.flag, .int .i64 x.num, .string x.text, .slice Ak4 x.keys.length ck4, .slice Ac4 x.kids.length cc4] from by have h1 := Blk.new wd [.int .i64 x.kind, .bool x.flag, .int .i64 x.num, .string x.text, .slice Ak4 x.keys.length ck4, .slice Ac4 x.kids.length cc4] 35; exact (h1))
  have hse : wd.heap.size < (wd.alloc (.cells #[.int .i64 x.kind, .bool x.flag, .int .i64 x.num, .string x.text, .slice Ak4 x.keys.length ck4, .slice Ac4 x.kids.length cc4] 35)).heap.size := by simp only [World.size_alloc]; omega
  clear HTd H6d H7d HVd HXd HWd hbA
  generalize (wd.alloc (.cells #[.int .i64 x.kind, .bool x.flag, .int .i64 x.num, .string x.text, .slice Ak4 x.keys.length ck4, .slice Ac4 x.kids.length cc4] 35)) = we at *
  refine (KI.out _ _ _ HXe.out.rd).mono ?_
  rintro e wf ⟨A5, c5, V5, rfl, hO, hb⟩
  have HZf := Lib.hid hO
  have HGZ := Lib.hid (show ∀ b ∈ V5, we.heap.size ≤ b ∧ b < wf.heap.size from fun b hb => ⟨hO.base b hb, hO.lt b hb⟩)
  clear hO
  have HTf := Lib.hid (HTe.out.ext hb)
  have H6f := Lib.hid (H6e.out.ext hb)
  have H7f := Lib.hid (H7e.out.ext hb)
  have H8f := Lib.hid (H8e.out.ext hb)
  have HVf := Lib.hid (HVe.out.ext hb)
  have HXf := Lib.hid (HXe.out.ext hb)
  have HWf := Lib.hid (ext_trans HWe.out hb)
  have hsf := hb.size
  clear HTe H6e H7e H8e HVe HXe HWe hb
  have kt0 := H6f.out.cell (i := 0) (u := .string v.key) rfl
  have kt1 := H6f.out.cell (i := 1) (u := .int .i64 v.op) rfl
  have kt2 := H6f.out.cell (i := 2) (u := .slice A3 v.values.length c3) rfl
  have ft := H6f.out.fz
  have lt := H6f.out.lt
  go_wp2_with fail
  clear kt0 kt1 kt2 ft lt
  have hbA : Below wf.heap.size wf ((wf.alloc (.cells #[.string v.key, .int .i64 v.op, .slice A5 v.values.length c5] 28)).alloc (.cells #[.int .i64 f.code, .int .i64 f.at_, .string f.path] 30)) := ext_alloc (ext_alloc (ext_refl _) (.cells #[.string v.key, .int .i64 v.op, .slice A5 v.values.length c5] 28)) (.cells #[.int .i64 f.code, .int .i64 f.at_, .string f.path] 30)
  have HTg := Lib.hid (HTf.out.ext hbA)
  have H6g := Lib.hid (H6f.out.ext hbA)
  have H7g := Lib.hid (H7f.out.ext hbA)
  have H8g := Lib.hid (H8f.out.ext hbA)
  have HVg := Lib.hid (HVf.out.ext hbA)
  have HXg := Lib.hid (HXf.out.ext hbA)
  have HZg := Lib.hid (HZf.out.ext hbA)
  have HWg := Lib.hid (ext_trans HWf.out hbA)
  have H9g := Lib.hid (show Blk ((wf.alloc (.cells #[.string v.key, .int .i64 v.op, .slice A5 v.values.length c5] 28)).alloc (.cells #[.int .i64 f.code, .int .i64 f.at_, .string f.path] 30)) (wf.heap.size) [.string v.key, .int .i64 v.op, .slice A5 v.values.length c5] from by have h1 := Blk.new wf [.string v.key, .int .i64 v.op, .slice A5 v.values.length c5] 28; exact (h1).ext (ext_alloc (ext_refl _) (.cells #[.int .i64 f.code, .int .i64 f.at_, .string f.path] 30)))
  have H10g := Lib.hid (show Blk ((wf.alloc (.cells #[.string v.key, .int .i64 v.op, .slice A5 v.values.length c5] 28)).alloc (.cells #[.int .i64 f.code, .int .i64 f.at_, .string f.path] 30)) (wf.heap.size + 1) [.int .i64 f.code, .int .i64 f.at_, .string f.path] from by have h1 := Blk.new (wf.alloc (.cells #[.string v.key, .int .i64 v.op, .slice A5 v.values.length c5] 28)) [.int .i64 f.code, .int .i64 f.at_, .string f.path] 30; rw [World.size_alloc] at h1; exact (h1))
  have hsg : wf.heap.size < ((wf.alloc (.cells #[.string v.key, .int .i64 v.op, .slice A5 v.values.length c5] 28)).alloc (.cells #[.int .i64 f.code, .int .i64 f.at_, .string f.path] 30)).heap.size := by simp only [World.size_alloc]; omega
  clear HTf H6f H7f H8f HVf HXf HZf HWf hbA
  generalize ((wf.alloc (.cells #[.string v.key, .int .i64 v.op, .slice A5 v.values.length c5] 28)).alloc (.cells #[.int .i64 f.code, .int .i64 f.at_, .string f.path] 30)) = wg at *
  refine (eqNeed_any v v _ _ _ _ _ (Own.need (k := v.key) (op := v.op) HZg.out (by have := HKEY.out; have := HWT.out; unfold maxLen; omega) HOPI.out).rd (Own.need (k := v.key) (op := v.op) HVg.out (by have := HKEY.out; have := HWT.out; unfold maxLen; omega) HOPI.out).rd).mono ?_
  rw [HEV.out]
  rintro e wi ⟨rfl, hb⟩
  have HTi := Lib.hid (HTg.out.ext hb)
  have H6i := Lib.hid (H6g.out.ext hb)
  have H7i := Lib.hid (H7g.out.ext hb)
  have H8i := Lib.hid (H8g.out.ext hb)
  have H9i := Lib.hid (H9g.out.ext hb)
  have H10i := Lib.hid (H10g.out.ext hb)
  have HVi := Lib.hid (HVg.out.ext hb)
  have HXi := Lib.hid (HXg.out.ext hb)
  have HZi := Lib.hid (HZg.out.ext hb)
  have HWi := Lib.hid (ext_trans HWg.out hb)
  have hsi := hb.size
  clear HTg H6g H7g H8g H9g H10g HVg HXg HZg HWg hb
  have kp0 := H10i.out.cell (i := 0) (u := .int .i64 f.code) rfl
  have kp1 := H10i.out.cell (i := 1) (u := .int .i64 f.at_) rfl
  have kp2 := H10i.out.cell (i := 2) (u := .string f.path) rfl
  have fp := H10i.out.fz
  have lp := H10i.out.lt
  have kq0 := H7i.out.cell (i := 0) (u := .int .i64 f.code) rfl
  have kq1 := H7i.out.cell (i := 1) (u := .int .i64 f.at_) rfl
  have kq2 := H7i.out.cell (i := 2) (u := .string f.path) rfl
  have fq := H7i.out.fz
  have lq := H7i.out.lt
  go_wp2_with fail
  refine (eqFault_any f f _ _ _ _ _ (HRF.out _) (HRF.out _)).mono ?_
  rw [HEF.out]
  clear kp0 kp1 kp2 fp lp
  clear kq0 kq1 kq2 fq lq
  rintro e wj ⟨rfl, hb⟩
  have HTj := Lib.hid (HTi.out.ext hb)
  have H6j := Lib.hid (H6i.out.ext hb)
  have H7j := Lib.hid (H7i.out.ext hb)
  have H8j := Lib.hid (H8i.out.ext hb)
  have H9j := Lib.hid (H9i.out.ext hb)
  have H10j := Lib.hid (H10i.out.ext hb)
  have HVj := Lib.hid (HVi.out.ext hb)
  have HXj := Lib.hid (HXi.out.ext hb)
  have HZj := Lib.hid (HZi.out.ext hb)
  have HWj := Lib.hid (ext_trans HWi.out hb)
  have hsj := hb.size
  clear HTi H6i H7i H8i H9i H10i HVi HXi HZi HWi hb
  -- 12
  have kt0 := HTj.out.cell (i := 0) (u := .int .i64 x.kind) rfl
  have kt1 := HTj.out.cell (i := 1) (u := .bool x.flag) rfl
  have kt2 := HTj.out.cell (i := 2) (u := .int .i64 x.num) rfl
  have kt3 := HTj.out.cell (i := 3) (u := .string x.text) rfl
  have kt4 := HTj.out.cell (i := 4) (u := .slice Ak x.keys.length ck) rfl
  have kt5 := HTj.out.cell (i := 5) (u := .slice Ac x.kids.length cc) rfl
  have ft := HTj.out.fz
  have lt := HTj.out.lt
  have ku0 := H8j.out.cell (i := 0) (u := .int .i64 x.kind) rfl
  have ku1 := H8j.out.cell (i := 1) (u := .bool x.flag) rfl
  have ku2 := H8j.out.cell (i := 2) (u := .int .i64 x.num) rfl
  have ku3 := H8j.out.cell (i := 3) (u := .string x.text) rfl
  have ku4 := H8j.out.cell (i := 4) (u := .slice Ak4 x.keys.length ck4) rfl
  have ku5 := H8j.out.cell (i := 5) (u := .slice Ac4 x.kids.length cc4) rfl
  have fu := H8j.out.fz
  have lu := H8j.out.lt
  go_wp2_with fail
  refine wp_region_head wj 2 (by kernel_rfl) (by kernel_rfl) (fun _ _ d _ _ h => by cases d <;> exact h) (ext_refl _) ?_
  simp only [List.take_succ_cons, List.take_zero, List.drop_succ_cons, List.drop_zero]
  iterate 2
    (apply headC_step
     case hy =>
       refine Or.inl ⟨rfl, fun wq hq => ?_⟩
       have hcq := (cls_cell hq).1
       go_simp
       try rfl
     simp only [Act.put, List.setIfInBounds_toArray, List.set_cons_zero, List.set_cons_succ])
  refine headC_nil ?_
  refine wpListC_step rfl (fun K hK => ?_)
  go_simp
  refine (toTree_any x _ _ _ (rd_ext HRX.out (ext_drew HWj.out)) HWT.out).mono ?_
  rintro e w8 ⟨cs8, G8, rfl, hO8, hb8⟩
  have hR8 := hO8.rd
  obtain ⟨Ak8, ck8, Fk8, Ac8, cc8, Fc8, hck, hG8, hkind8, hnum8, htext8, hkeys8, hkids8⟩ := rd_Tree hR8
  subst hck
  clear hG8 hR8
  have hb78 : Below wj.heap.size wj w8 := ext_trans (ext_drew (ext_refl _)) hb8
  refine hK _ _ hb78 (fun _ => ?_)
  try simp only [Act.put, List.setIfInBounds_toArray, List.set_cons_zero, List.set_cons_succ]
  clear hK K
  refine wpListC_step rfl (fun K hK => ?_)
  go_simp
  refine (eqTree_any x x _ _ _ _ _ (HXj.out.ext hb78).rd hO8.rd).mono ?_
  rw [HSAME.out]
  rintro e wk ⟨rfl, hb9⟩
  have hb := ext_trans hb78 hb9
  refine hK _ _ hb (fun _ => ?_)
  try simp only [Act.put, List.setIfInBounds_toArray, List.set_cons_zero, List.set_cons_succ]
  clear hK K
  refine wpListC_step rfl (fun K hK => ?_)
  go_simp
  refine hK _ _ hb (fun _ => ?_)
  try simp only [Act.put, List.setIfInBounds_toArray, List.set_cons_zero, List.set_cons_succ]
  clear hK K
  refine wpListC_nil ?_
  clear kt0 kt1 kt2 kt3 kt4 kt5 ft lt
  clear ku0 ku1 ku2 ku3 ku4 ku5 fu lu
  clear hb8 hb9 hb78 hO8 hkind8 hnum8 htext8 hkeys8 hkids8
  have HTk := Lib.hid (HTj.out.ext hb)
  have H6k := Lib.hid (H6j.out.ext hb)
  have H7k := Lib.hid (H7j.out.ext hb)
  have H8k := Lib.hid (H8j.out.ext hb)
  have H9k := Lib.hid (H9j.out.ext hb)
  have H10k := Lib.hid (H10j.out.ext hb)
  have HVk := Lib.hid (HVj.out.ext hb)
  have HXk := Lib.hid (HXj.out.ext hb)
  have HZk := Lib.hid (HZj.out.ext hb)
  have HWk := Lib.hid (ext_trans HWj.out hb)
  have hsk := hb.size
  clear HTj H6j H7j H8j H9j H10j HVj HXj HZj HWj hb
  -- 15: marks on the argument
  have ku0 := H8k.out.cell (i := 0) (u := .int .i64 x.kind) rfl
  have ku1 := H8k.out.cell (i := 1) (u := .bool x.flag) rfl
  have ku2 := H8k.out.cell (i := 2) (u := .int .i64 x.num) rfl
  have ku3 := H8k.out.cell (i := 3) (u := .string x.text) rfl
  have ku4 := H8k.out.cell (i := 4) (u := .slice Ak4 x.keys.length ck4) rfl
  have ku5 := H8k.out.cell (i := 5) (u := .slice Ac4 x.kids.length cc4) rfl
  have fu := H8k.out.fz
  have lu := H8k.out.lt
  go_wp2_with fail
  clear ku0 ku1 ku2 ku3 ku4 ku5 fu lu
  refine (markTree_any x _ _ _ 1 _ HXk.out (by omega) HCT.out).mono ?_
  rintro e wl ⟨rfl, _, hU⟩
  have HTl := Lib.hid (HTk.out.keep (hU.block _ HTk.out.lt (by intro hm; have := HGX.out _ hm; omega)))
  have H6l := Lib.hid (H6k.out.keep (hU.block _ H6k.out.lt (by intro hm; have := HGX.out _ hm; omega)))
  have H7l := Lib.hid (H7k.out.keep (hU.block _ H7k.out.lt (by intro hm; have := HGX.out _ hm; omega)))
  have H9l := Lib.hid (H9k.out.keep (hU.block _ H9k.out.lt (by intro hm; have := HGX.out _ hm; omega)))
  have H10l := Lib.hid (H10k.out.keep (hU.block _ H10k.out.lt (by intro hm; have := HGX.out _ hm; omega)))
  have HVl := Lib.hid (HVk.out.keep (fun y hy => hU.block y (HVk.out.lt y hy) (fun hm => by have h1 := HGX.out y hm; have h2 := HGV.out y hy; omega)) hU.size)
  have HZl := Lib.hid (HZk.out.keep (fun y hy => hU.block y (HZk.out.lt y hy) (fun hm => by have h1 := HGX.out y hm; have h2 := HGZ.out y hy; omega)) hU.size)
  have HWl := Lib.hid (HWk.out.trans (hU.below (fun b hb => by have := HGX.out b hb; omega) HWk.out.size))
  have hsl := hU.size
  clear hU HTk H6k H7k H8k H9k H10k HVk HXk HZk HWk
  obtain ⟨ct, hct⟩ : ∃ ct : Nat, cntTopTree x = ct := ⟨_, rfl⟩
  rw [hct] at HCT ⊢
  have hct0 : decide ((1 : Int) + (ct : Int) < 0) = false := by simp; omega
  have hctm := HCT.out
  clear hct
  have kp0 := H9l.out.cell (i := 0) (u := .string v.key) rfl
  have kp1 := H9l.out.cell (i := 1) (u := .int .i64 v.op) rfl
  have kp2 := H9l.out.cell (i := 2) (u := .slice A5 v.values.length c5) rfl
  have fp := H9l.out.fz
  have lp := H9l.out.lt
  have kq0 := H6l.out.cell (i := 0) (u := .string v.key) rfl
  have kq1 := H6l.out.cell (i := 1) (u := .int .i64 v.op) rfl
  have kq2 := H6l.out.cell (i := 2) (u := .slice A3 v.values.length c3) rfl
  have fq := H6l.out.fz
  have lq := H6l.out.lt
  go_wp2_with fail
  clear kp0 kp1 kp2 fp lp
  clear kq0 kq1 kq2 fq lq
  refine (eqNeed_any v v _ _ _ _ _ (Own.need (k := v.key) (op := v.op) HZl.out (by have := HKEY.out; have := HWT.out; unfold maxLen; omega) HOPI.out).rd (Own.need (k := v.key) (op := v.op) HVl.out (by have := HKEY.out; have := HWT.out; unfold maxLen; omega) HOPI.out).rd).mono ?_
  rw [HEV.out]
  rintro e wm ⟨rfl, hb⟩
  have HTm := Lib.hid (HTl.out.ext hb)
  have H6m := Lib.hid (H6l.out.ext hb)
  have H7m := Lib.hid (H7l.out.ext hb)
  have H9m := Lib.hid (H9l.out.ext hb)
  have H10m := Lib.hid (H10l.out.ext hb)
  have HVm := Lib.hid (HVl.out.ext hb)
  have HZm := Lib.hid (HZl.out.ext hb)
  have HWm := Lib.hid (ext_trans HWl.out hb)
  have hsm := hb.size
  clear HTl H6l H7l H9l H10l HVl HZl HWl hb
  have kp0 := H10m.out.cell (i := 0) (u := .int .i64 f.code) rfl
  have kp1 := H10m.out.cell (i := 1) (u := .int .i64 f.at_) rfl
  have kp2 := H10m.out.cell (i := 2) (u := .string f.path) rfl
  have fp := H10m.out.fz
  have lp := H10m.out.lt
  have kq0 := H7m.out.cell (i := 0) (u := .int .i64 f.code) rfl
  have kq1 := H7m.out.cell (i := 1) (u := .int .i64 f.at_) rfl
  have kq2 := H7m.out.cell (i := 2) (u := .string f.path) rfl
  have fq := H7m.out.fz
  have lq := H7m.out.lt
  go_wp2_with fail
  refine (eqFault_any f f _ _ _ _ _ (HRF.out _) (HRF.out _)).mono ?_
  rw [HEF.out]
  clear kp0 kp1 kp2 fp lp
  clear kq0 kq1 kq2 fq lq
  rintro e wn ⟨rfl, hb⟩
  have HTn := Lib.hid (HTm.out.ext hb)
  have H6n := Lib.hid (H6m.out.ext hb)
  have H7n := Lib.hid (H7m.out.ext hb)
  have H9n := Lib.hid (H9m.out.ext hb)
  have H10n := Lib.hid (H10m.out.ext hb)
  have HVn := Lib.hid (HVm.out.ext hb)
  have HZn := Lib.hid (HZm.out.ext hb)
  have HWn := Lib.hid (ext_trans HWm.out hb)
  have hsn := hb.size
  clear HTm H6m H7m H9m H10m HVm HZm HWm hb
  -- 19: marks on what the program answered
  have kp0 := H9n.out.cell (i := 0) (u := .string v.key) rfl
  have kp1 := H9n.out.cell (i := 1) (u := .int .i64 v.op) rfl
  have kp2 := H9n.out.cell (i := 2) (u := .slice A5 v.values.length c5) rfl
  have fp := H9n.out.fz
  have lp := H9n.out.lt
  go_wp2_with fail
  clear kp0 kp1 kp2 fp lp
  refine (markNeed_any v _ _ _ 1 _ (Own.need (k := v.key) (op := v.op) HZn.out (by have := HKEY.out; have := HWT.out; unfold maxLen; omega) HOPI.out) (by omega) HLV.out).mono ?_
  rintro e wo ⟨rfl, hOm, hU⟩
  have HMo := Lib.hid hOm
  have HTo := Lib.hid (HTn.out.keep (hU.block _ HTn.out.lt (by intro hm; have := HGZ.out _ hm; omega)))
  have H6o := Lib.hid (H6n.out.keep (hU.block _ H6n.out.lt (by intro hm; have := HGZ.out _ hm; omega)))
  have H7o := Lib.hid (H7n.out.keep (hU.block _ H7n.out.lt (by intro hm; have := HGZ.out _ hm; omega)))
  have H9o := Lib.hid (H9n.out.keep (hU.block _ H9n.out.lt (by intro hm; have := HGZ.out _ hm; omega)))
  have H10o := Lib.hid (H10n.out.keep (hU.block _ H10n.out.lt (by intro hm; have := HGZ.out _ hm; omega)))
  have HVo := Lib.hid (HVn.out.keep (fun y hy => hU.block y (HVn.out.lt y hy) (fun hm => by have h1 := HGZ.out y hm; have h2 := HGV.out y hy; omega)) hU.size)
  have HWo := Lib.hid (HWn.out.trans (hU.below (fun b hb => by have := HGZ.out b hb; omega) HWn.out.size))
  clear hU hOm HTn H6n H7n H9n H10n HVn HZn HWn hct0
  have HLM := Lib.hid (show (1 : Int) + cntTopNeed (mkTopNeed v 1) ≤ 1073741823 by rw [cntTopNeed_mk]; exact HLV.out)
  have HME := Lib.hid (cntTopNeed_mk v 1)
  have HMI := Lib.hid (mkTopNeed_idem v 1)
  obtain ⟨cn, hcn⟩ : ∃ cn : Nat, cntTopNeed v = cn := ⟨_, rfl⟩
  rw [hcn] at HME HLV ⊢
  have hcnm := HLV.out
  clear hcn
  have kp0 := H9o.out.cell (i := 0) (u := .string v.key) rfl
  have kp1 := H9o.out.cell (i := 1) (u := .int .i64 v.op) rfl
  have kp2 := H9o.out.cell (i := 2) (u := .slice A5 v.values.length c5) rfl
  have fp := H9o.out.fz
  have lp := H9o.out.lt
  go_wp2_with fail
  clear kp0 kp1 kp2 fp lp
  refine (heldNeed_any (mkTopNeed v 1) _ _ 1 _ HMo.out.rd HMI.out (by omega) HLM.out).mono ?_
  rw [HME.out]
  rintro e wp ⟨rfl, hb⟩
  have HTp := Lib.hid (HTo.out.ext hb)
  have H6p := Lib.hid (H6o.out.ext hb)
  have H7p := Lib.hid (H7o.out.ext hb)
  have H9p := Lib.hid (H9o.out.ext hb)
  have HVp := Lib.hid (HVo.out.ext hb)
  have HMp := Lib.hid (HMo.out.ext hb)
  have HWp := Lib.hid (ext_trans HWo.out hb)
  have hsp := hb.size
  clear HTo H6o H7o H9o HVo HMo HWo hb
  have hcn0 : decide ((1 : Int) + (cn : Int) < 0) = false := by simp; omega
  have hcne : ((1 : Int) + (cn : Int) != 1 + (cn : Int)) = false := by simp
  -- 26: once more
  have kt0 := HTp.out.cell (i := 0) (u := .int .i64 x.kind) rfl
  have kt1 := HTp.out.cell (i := 1) (u := .bool x.flag) rfl
  have kt2 := HTp.out.cell (i := 2) (u := .int .i64 x.num) rfl
  have kt3 := HTp.out.cell (i := 3) (u := .string x.text) rfl
  have kt4 := HTp.out.cell (i := 4) (u := .slice Ak x.keys.length ck) rfl
  have kt5 := HTp.out.cell (i := 5) (u := .slice Ac x.kids.length cc) rfl
  have ft := HTp.out.fz
  have lt := HTp.out.lt
  go_wp2_with fail
  clear kt0 kt1 kt2 kt3 kt4 kt5 ft lt
  refine (toTree_any x _ _ _ (rd_ext HRX.out HWp.out) HWT.out).mono ?_
  rintro e wq ⟨cs9, G9, rfl, hO, hb⟩
  have hR9 := Lib.hid hO.rd
  obtain ⟨Ak9, ck9, Fk9, Ac9, cc9, Fc9, hck, hG9, hkind9, hnum9, htext9, hkeys9, hkids9⟩ := rd_Tree hO.rd
  subst hck
  clear hG9 hO hkind9 hnum9 htext9 hkeys9 hkids9
  have H6q := Lib.hid (H6p.out.ext hb)
  have H7q := Lib.hid (H7p.out.ext hb)
  have H9q := Lib.hid (H9p.out.ext hb)
  have HVq := Lib.hid (HVp.out.ext hb)
  have HMq := Lib.hid (HMp.out.ext hb)
  have HWq := Lib.hid (ext_trans HWp.out hb)
  have hsq := hb.size
  clear H6p H7p H9p HVp HMp HWp hb
  go_wp2_with fail
  refine (KI.out _ _ _ hR9.out).mono ?_
  rintro e wr ⟨A7, c7, V7, rfl, hO, hb⟩
  have HYr := Lib.hid hO
  clear hO hR9
  have H6r := Lib.hid (H6q.out.ext hb)
  have H7r := Lib.hid (H7q.out.ext hb)
  have H9r := Lib.hid (H9q.out.ext hb)
  have HVr := Lib.hid (HVq.out.ext hb)
  have HMr := Lib.hid (HMq.out.ext hb)
  have HWr := Lib.hid (ext_trans HWq.out hb)
  have hsr := hb.size
  clear H6q H7q H9q HVq HMq HWq hb
  have kt0 := H6r.out.cell (i := 0) (u := .string v.key) rfl
  have kt1 := H6r.out.cell (i := 1) (u := .int .i64 v.op) rfl
  have kt2 := H6r.out.cell (i := 2) (u := .slice A3 v.values.length c3) rfl
  have ft := H6r.out.fz
  have lt := H6r.out.lt
  go_wp2_with fail
  clear kt0 kt1 kt2 ft lt
  have hbA : Below wr.heap.size wr ((wr.alloc (.cells #[.string v.key, .int .i64 v.op, .slice A7 v.values.length c7] 28)).alloc (.cells #[.int .i64 f.code, .int .i64 f.at_, .string f.path] 30)) := ext_alloc (ext_alloc (ext_refl _) (.cells #[.string v.key, .int .i64 v.op, .slice A7 v.values.length c7] 28)) (.cells #[.int .i64 f.code, .int .i64 f.at_, .string f.path] 30)
  have H6s := Lib.hid (H6r.out.ext hbA)
  have H7s := Lib.hid (H7r.out.ext hbA)
  have H9s := Lib.hid (H9r.out.ext hbA)
  have HVs := Lib.hid (HVr.out.ext hbA)
  have HMs := Lib.hid (HMr.out.ext hbA)
  have HYs := Lib.hid (HYr.out.ext hbA)
  have HWs := Lib.hid (ext_trans HWr.out hbA)
  have H14s := Lib.hid (show Blk ((wr.alloc (.cells #[.string v.key, .int .i64 v.op, .slice A7 v.values.length c7] 28)).alloc (.cells #[.int .i64 f.code, .int .i64 f.at_, .string f.path] 30)) (wr.heap.size) [.string v.key, .int .i64 v.op, .slice A7 v.values.length c7] from by have h1 := Blk.new wr [.string v.key, .int .i64 v.op, .slice A7 v.values.length c7] 28; exact (h1).ext (ext_alloc (ext_refl _) (.cells #[.int .i64 f.code, .int .i64 f.at_, .string f.path] 30)))
  have H15s := Lib.hid (show Blk ((wr.alloc (.cells #[.string v.key, .int .i64 v.op, .slice A7 v.values.length c7] 28)).alloc (.cells #[.int .i64 f.code, .int .i64 f.at_, .string f.path] 30)) (wr.heap.size + 1) [.int .i64 f.code, .int .i64 f.at_, .string f.path] from by have h1 := Blk.new (wr.alloc (.cells #[.string v.key, .int .i64 v.op, .slice A7 v.values.length c7] 28)) [.int .i64 f.code, .int .i64 f.at_, .string f.path] 30; rw [World.size_alloc] at h1; exact (h1))
  have hss : wr.heap.size < ((wr.alloc (.cells #[.string v.key, .int .i64 v.op, .slice A7 v.values.length c7] 28)).alloc (.cells #[.int .i64 f.code, .int .i64 f.at_, .string f.path] 30)).heap.size := by simp only [World.size_alloc]; omega
  clear H6r H7r H9r HVr HMr HYr HWr hbA
  generalize ((wr.alloc (.cells #[.string v.key, .int .i64 v.op, .slice A7 v.values.length c7] 28)).alloc (.cells #[.int .i64 f.code, .int .i64 f.at_, .string f.path] 30)) = ws at *
  refine (eqNeed_any v v _ _ _ _ _ (Own.need (k := v.key) (op := v.op) HYs.out (by have := HKEY.out; have := HWT.out; unfold maxLen; omega) HOPI.out).rd (Own.need (k := v.key) (op := v.op) HVs.out (by have := HKEY.out; have := HWT.out; unfold maxLen; omega) HOPI.out).rd).mono ?_
  rw [HEV.out]
  rintro e wt ⟨rfl, hb⟩
  have H7t := Lib.hid (H7s.out.ext hb)
  have H9t := Lib.hid (H9s.out.ext hb)
  have H15t := Lib.hid (H15s.out.ext hb)
  have HVt := Lib.hid (HVs.out.ext hb)
  have HMt := Lib.hid (HMs.out.ext hb)
  have HYt := Lib.hid (HYs.out.ext hb)
  have HWt := Lib.hid (ext_trans HWs.out hb)
  have hst := hb.size
  clear H7s H9s H15s HVs HMs HYs HWs hb
  have kp0 := H15t.out.cell (i := 0) (u := .int .i64 f.code) rfl
  have kp1 := H15t.out.cell (i := 1) (u := .int .i64 f.at_) rfl
  have kp2 := H15t.out.cell (i := 2) (u := .string f.path) rfl
  have fp := H15t.out.fz
  have lp := H15t.out.lt
  have kq0 := H7t.out.cell (i := 0) (u := .int .i64 f.code) rfl
  have kq1 := H7t.out.cell (i := 1) (u := .int .i64 f.at_) rfl
  have kq2 := H7t.out.cell (i := 2) (u := .string f.path) rfl
  have fq := H7t.out.fz
  have lq := H7t.out.lt
  go_wp2_with fail
  refine (eqFault_any f f _ _ _ _ _ (HRF.out _) (HRF.out _)).mono ?_
  rw [HEF.out]
  clear kp0 kp1 kp2 fp lp
  clear kq0 kq1 kq2 fq lq
  rintro e wu ⟨rfl, hb⟩
  have H7u := Lib.hid (H7t.out.ext hb)
  have H9u := Lib.hid (H9t.out.ext hb)
  have H15u := Lib.hid (H15t.out.ext hb)
  have HVu := Lib.hid (HVt.out.ext hb)
  have HMu := Lib.hid (HMt.out.ext hb)
  have HYu := Lib.hid (HYt.out.ext hb)
  have HWu := Lib.hid (ext_trans HWt.out hb)
  have hsu := hb.size
  clear H7t H9t H15t HVt HMt HYt HWt hb
  have kp0 := H9u.out.cell (i := 0) (u := .string v.key) rfl
  have kp1 := H9u.out.cell (i := 1) (u := .int .i64 v.op) rfl
  have kp2 := H9u.out.cell (i := 2) (u := .slice A5 v.values.length c5) rfl
  have fp := H9u.out.fz
  have lp := H9u.out.lt
  go_wp2_with fail
  clear kp0 kp1 kp2 fp lp
  refine (heldNeed_any (mkTopNeed v 1) _ _ 1 _ HMu.out.rd HMI.out (by omega) HLM.out).mono ?_
  rw [HME.out]
  rintro e wv ⟨rfl, hb⟩
  have HWv := Lib.hid (ext_trans HWu.out hb)
  have hsv := hb.size
  clear  HWu hb
  go_wp2
  go_ret
  exact ⟨by first | rfl | simp, HWv.out⟩
set_option maxRecDepth 100000 in
theorem law_walk {H : Type} {enc : TypeId × Value → H} (W : World) (base : Nat) (args : Array Value) (ds : List (DataW H)) (p : List MemPlace)
    (hval : ∀ (j : Nat) t v, Tryz.f3.params[j]? = some t → args[j]? = some v → Value.okWide Tryz.prog W .any base t v)
    (hA : DataW.TrodAll enc Tryz.prog W 0 (fun _ => true) true Tryz.f3.params.toList args.toList ds p) (hlt : ∀ x ∈ p, x.block < W.heap.size) :
    Calls Tryz.prog 3 args W fun e W' => e = .returned (.bool true) ∧ Below W.heap.size W W' := by
  rw [Tryz.params3] at hA hval
  obtain ⟨v0, vs0, d0, ds0, p0, q0, hargs, rfl, rfl, h0, r0⟩ := trodAll_cons hA
  obtain ⟨v1, vs1, d1, ds1, p1, q1, rfl, rfl, rfl, h1, r1⟩ := trodAll_cons r0
  obtain ⟨rfl, rfl, rfl⟩ := trodAll_nil r1
  obtain rfl : args = #[v0, v1] := by cases args; simp_all
  have hv0 := hval 0 25 v0 rfl rfl
  obtain ⟨cs, rfl, _⟩ := okWide_struct Tryz.underlying25 hv0
  clear hv0
  obtain ⟨nm, rfl⟩ := okWide_string Tryz.underlying9 (hval 1 9 v1 rfl rfl)
  obtain ⟨fuel, hf⟩ := h0
  obtain ⟨x, F, hr⟩ := opens_Tree H enc W 0 fuel _ _ _ _ hf
  exact walk x cs.toList F nm W hr

theorem own : ownKnob Tryz.prog.godebug = none := by kernel_rfl
theorem laid : laidOutB Tryz.prog = true := by kernel_rfl
theorem readable : ∀ t ∈ Tryz.f3.params.toList, Tryz.prog.readableRec t = true ∧ t < Tryz.prog.types.size := by
  have h : (Tryz.f3.params.toList.all fun t => Tryz.prog.readableRec t && decide (t < Tryz.prog.types.size)) = true := by kernel_rfl
  intro t ht
  have := List.all_eq_true.1 h t ht
  simpa using this

theorem law_shape {H : Type} {enc : TypeId × Value → H} {W : World} {args : List Value} {ds : List (DataW H)} {p : List MemPlace}
    (h : DataW.TrodAll enc Tryz.prog W 0 (fun _ => true) true Tryz.f3.params.toList args ds p) : ∃ d0 d1, ds = [d0, d1] := by
  rw [Tryz.params3] at h
  obtain ⟨v0, vs0, d0, ds0, p0, q0, _, rfl, _, _, r0⟩ := trodAll_cons h
  obtain ⟨v1, vs1, d1, ds1, p1, q1, _, rfl, _, _, r1⟩ := trodAll_cons r0
  obtain ⟨_, rfl, _⟩ := trodAll_nil r1
  exact ⟨d0, d1, rfl⟩

def laidL {H : Type} : List (String × DataW H) := [("math/bits.deBruijn32tab", Rows.laid_math_bits_deBruijn32tab), ("math/bits.deBruijn64tab", Rows.laid_math_bits_deBruijn64tab), ("internal/strconv.uint64pow10", Rows.laid_internal_strconv_uint64pow10)]
theorem door_met (os : Os) (args : Array Value) : laidMetH Tryz.prog laidL ((World.doorLaid Tryz.prog 400 os).forCall (fun _ _ => 0) ⟨#[], args, []⟩).memory :=
  laidMetH_of_parts3 (fuel := 8) (laidMet_of_run' 8 (by kernel_rfl) (by kernel_rfl)) (by kernel_rfl) (by kernel_rfl)
set_option maxRecDepth 100000 in
theorem lifted (os : Os) (started : os.Started) (H : Type) (enc : TypeId × Value → H) :
    ReturnsInHanded {} Tryz.checked os 3 .any (fun w args => (Rows.fnExactNeedInSpec.pre enc Tryz.prog Tryz.f3 [] false w args ∧ laidMetH Tryz.prog laidL w) ∧ sizedMet enc Tryz.prog Tryz.f3 (OpenSpec.ofChange Rows.fnExactNeedInSpec) false w args)
      (Rows.fnExactNeedInSpec.post enc Tryz.prog Tryz.f3 false true false false) := by
  refine returnsInHanded_of_change_and (C := Tryz.checked) (X := fun w _ => laidMetH Tryz.prog laidL w) (fun _ _ _ hh h => h.of_heap hh) own started (by kernel_rfl) Tryz.func3
    (ChangeSpec.witness_shaped (enc := enc) (C := Tryz.checked) (os := os) (X := fun w _ => laidMetH Tryz.prog laidL w) false (World.doorLaid Tryz.prog 400 os) #[.agg #[.int .i64 0, .bool false, .int .i64 0, .string ⟨#[]⟩, .slice none 0 0, .slice none 0 0], .string ⟨#[]⟩] 8 rfl (World.shaped_of_RefB (by kernel_rfl) (by kernel_rfl)) (by kernel_rfl) (by kernel_rfl) (by kernel_rfl) (door_met os _)) ?_
  intro W base args ds gs before hval0 hW hcnd _ _ _
  have hlt : ∀ x ∈ before, x.block < W.heap.size := fun x hx => hW.lt x hx
  have hW' := hW
  obtain ⟨p, q, hA, hV, rfl, _, _⟩ := hW'
  exact (law_walk W base args ds p hval0 hA (fun x hx => hlt x (List.mem_append_left _ hx))).mono fun e W' ⟨he, hb⟩ =>
    ⟨_, he, law_post laid readable rfl Tryz.underlying4 rfl (by obtain ⟨d0, d1, hs⟩ := law_shape hA; rw [hs]; rfl) hW hb⟩

theorem over : Rows.fnExactNeedInRow.holds Tryz.pinned (OpenSpec.ofChange Rows.fnExactNeedInSpec) :=
  OpenClaim.holds_of_wide 3 Tryz.f3 rfl rfl rfl rfl rfl rfl rfl ⟨rfl, rfl, rfl, rfl, rfl⟩ rfl rfl rfl rfl rfl (by kernel_rfl) Tryz.func3 (by kernel_rfl)
    (of_decide_eq_true (by kernel_rfl)) (by unfold Func.isWrapper; first | (rw [if_pos (by decide +kernel)]; kernel_rfl) | (rw [if_neg (by decide +kernel)]; exact ⟨rfl, rfl⟩))
    (fun os started H enc _ => lifted os started H enc)

theorem proved : Rows.FnExactNeedInCardSaid :=
  Claim7.holds_tied_plain_at .later [] [.data, .data, .data] true (true, "09efe013696e321652c7320bfa77e025bd8fc5c4643d96503b52aeb1e6e58649") false
    over (fun _ h => by cases h) (by kernel_rfl) (fun _ h => by cases h) fnExactNeedIn_row_tie rfl ⟨rfl, rfl⟩ (by kernel_rfl) rfl
    (fun f fn hf hfn => by
      obtain rfl : f = 3 := Option.some.inj ((show Tryz.prog.funcNamed "loop.example/g00968/laws.FnExactNeedIn" = some 3 by kernel_rfl).symm.trans hf) |>.symm
      obtain rfl : fn = Tryz.f3 := (Option.some.inj (Tryz.func3.symm.trans hfn)).symm
      exact ⟨by kernel_rfl, fun j t ht => by
        have hm : t ∈ Tryz.f3.params.toList := by simpa using Array.mem_of_getElem? ht
        have hall : (Tryz.f3.params.toList.all fun u => !Tryz.prog.wantsStandIn u) = true := by kernel_rfl
        exact (show Tryz.prog.wantsStandIn t = false by simpa using List.all_eq_true.1 hall t hm)⟩)
    (by kernel_rfl)
#print axioms proved
end Go.Proofs.YtegekccoincicaaGreatDoor.fnExactNeedIn
