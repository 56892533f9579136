/- Marks on Label. -/
import Derived.Test.YtjoclfenghenjaaMkBase
import Derived.Test.YtjoclfenghenjaaData
import Derived.Test.YtjoclfenghenjaaMiStr
import Derived.Test.YtjoclfenghenjaaMwStr
namespace Go.Proofs.Ytjoclfenghenjaa
open Go.ChangeShapes Go.WideShapes Go.ChangeAt Go.RowKit
set_option linter.unusedVariables false
set_option linter.unusedSimpArgs false

def mkLabel (x : Label) (k : Int) : Label := { key := mtext (k), value := mtext (k + 1) }
def cntLabel (x : Label) : Nat := 1 + 1
set_option maxRecDepth 100000 in
set_option maxHeartbeats 2000000 in
theorem markLabelS_any (xs : List Label) (A : Option Addr) (n c : Nat) (F : List Nat) (B : Nat) (k : Int) (w : World) (h : Own w B xs [.slice A n c] F) (hn : n = xs.length) (hk0 : 0 ≤ k) (hk : k + cntL cntLabel xs ≤ 1073741823) :
    Calls Try.prog 37 #[.slice A n c, .int .i64 k] w fun e w' => e = .returned (.int .i64 (k + cntL cntLabel xs)) ∧ Own w' B (mkL mkLabel cntLabel xs k) [.slice A n c] F ∧ Upd F w w' := by
  subst hn
  have hlen := own_len h
  go_enter Try.func37, Try.ntmps37
  go_wp2_with fail
  go_loopw [1, 5] (fun x y wr => ∃ (i : Nat), i ≤ xs.length ∧ y = .int .i64 i ∧ x = .int .i64 (k + cntL cntLabel (xs.take i)) ∧ Own wr B (mkUp mkLabel cntLabel xs k i) [.slice A xs.length c] F ∧ Upd F w wr) (fun _ y _ => xs.length - (intOf y).toNat)
  case atStart => exact ⟨0, Nat.zero_le _, rfl, by simp [cntL], by rw [mkUp_zero]; exact h, .refl _ _⟩
  case round =>
    obtain ⟨i, hi, rfl, rfl, hO, hu⟩ := hrel
    by_cases hlt : i < xs.length
    · have hle : (cntL cntLabel (xs.take i) : Int) + cntLabel xs[i] ≤ cntL cntLabel xs := by have := cntL_succ (cnt := cntLabel) hlt; have := cntL_le (cnt := cntLabel) xs (i + 1); omega
      have hsuc := cntL_succ (cnt := cntLabel) hlt
      obtain ⟨b, o, ck, Fk, rfl, hbF, hsub, hbk, hOe, hE, hcl⟩ := hO.elt (k := i) (by rw [mkUp_len hi]; exact hlt)
      rw [mkUp_get hlt] at hOe
      have hRe := hOe.rd
      obtain ⟨hck, hFk, hkey, hvalue⟩ := rd_Label hRe
      clear hRe
      subst hck hFk
      generalize hkk : k + (cntL cntLabel (xs.take i) : Int) = kk
      have hkk0 : 0 ≤ kk := by omega
      have hkk1 : kk + cntLabel xs[i] ≤ 1073741823 := by omega
      simp only [cntLabel] at hkk1
      push_cast at hkk1
      clear hO
      have q0 := hE.at_ (q := o + i * 2) (j := 0) (by show _ = o + i * 2 + 0; omega) rfl
      have z0 := hE.plain.frozen (o + i * 2)
      have q1 := hE.at_ (q := o + i * 2 + 1) (j := 1) (by show _ = o + i * 2 + 1; omega) rfl
      have z1 := hE.plain.frozen (o + i * 2 + 1)
      go_wp2_with fail
      clear q0 z0 q1 z1
      refine (markText_any (kk) _ (by omega) (by omega)).mono ?_
      rintro e w1 ⟨rfl, hb1⟩
      replace hE := hE.ext hb1
      have q0 := hE.at_ (q := o + i * 2) (j := 0) (by show _ = o + i * 2 + 0; omega) rfl
      have z0 := hE.plain.frozen (o + i * 2)
      have q1 := hE.at_ (q := o + i * 2 + 1) (j := 1) (by show _ = o + i * 2 + 1; omega) rfl
      have z1 := hE.plain.frozen (o + i * 2 + 1)
      go_wp2_with fail
      clear q0 z0 q1 z1
      replace hE := hE.set (j := 0) (q := o + i * 2) (by simp) (by show _ = o + i * 2 + 0; omega) (.string (mtext (kk)))
      simp only [List.set_cons_zero, List.set_cons_succ] at hE
      refine (markText_any (kk + 1) _ (by omega) (by omega)).mono ?_
      rintro e w2 ⟨rfl, hb2⟩
      replace hE := hE.ext hb2
      have q0 := hE.at_ (q := o + i * 2) (j := 0) (by show _ = o + i * 2 + 0; omega) rfl
      have z0 := hE.plain.frozen (o + i * 2)
      have q1 := hE.at_ (q := o + i * 2 + 1) (j := 1) (by show _ = o + i * 2 + 1; omega) rfl
      have z1 := hE.plain.frozen (o + i * 2 + 1)
      go_wp2_with fail
      clear q0 z0 q1 z1
      replace hE := hE.set (j := 1) (q := o + i * 2 + 1) (by simp) (by show _ = o + i * 2 + 1; omega) (.string (mtext (kk + 1)))
      simp only [List.set_cons_zero, List.set_cons_succ] at hE
      have hP := hcl _ (mkLabel xs[i] kk) _ ⟨(by have := (rd_pair (rdStr (w2.setCell ⟨b, o + i * 2 + 1, none⟩ (.string (mtext (kk + 1)))) (mtext (kk)) (mtext63 (by omega))) (rdStr (w2.setCell ⟨b, o + i * 2 + 1, none⟩ (.string (mtext (kk + 1)))) (mtext (kk + 1)) (mtext63 (by omega)))); simp only [List.nil_append, List.append_nil, List.append_assoc, List.cons_append] at this; exact this), hOe.nodup, hOe.base, (by intro y hy; cases hy)⟩ hE
      have hU := hu.trans (hE.upd.mono (G := F) (fun y hy => by rcases List.mem_cons.1 hy with rfl | hy; exact hbF; exact hsub y hy))
      have hset : (mkUp mkLabel cntLabel xs k i).set i (mkLabel xs[i] kk) = mkUp mkLabel cntLabel xs k (i + 1) := by rw [← hkk]; exact mkUp_set hlt
      rw [hset] at hP
      refine ⟨⟨i + 1, by omega, by go_num, ?_, hP, hU⟩, by simp [intOf]; omega⟩
      rw [hsuc]; simp only [cntLabel]; congr 1; push_cast; omega
    · have hkl : i = xs.length := by omega
      subst hkl
      go_wp2
      go_ret
      rw [mkUp_full] at hO
      simp only [List.take_length]
      exact ⟨rfl, hO, hu⟩
end Go.Proofs.Ytjoclfenghenjaa

namespace Go.Proofs.Ytjoclfenghenjaa
open Go.ChangeShapes Go.WideShapes Go.ChangeAt Go.RowKit
set_option linter.unusedVariables false
set_option linter.unusedSimpArgs false

def mkTaint (x : Taint) (k : Int) : Taint := { key := mtext (k), value := mtext (k + 1), effect := (k + 1 + 1) }
def cntTaint (x : Taint) : Nat := 1 + 1 + 1
set_option maxRecDepth 100000 in
set_option maxHeartbeats 2000000 in
theorem markTaintS_any (xs : List Taint) (A : Option Addr) (n c : Nat) (F : List Nat) (B : Nat) (k : Int) (w : World) (h : Own w B xs [.slice A n c] F) (hn : n = xs.length) (hk0 : 0 ≤ k) (hk : k + cntL cntTaint xs ≤ 1073741823) :
    Calls Try.prog 38 #[.slice A n c, .int .i64 k] w fun e w' => e = .returned (.int .i64 (k + cntL cntTaint xs)) ∧ Own w' B (mkL mkTaint cntTaint xs k) [.slice A n c] F ∧ Upd F w w' := by
  subst hn
  have hlen := own_len h
  go_enter Try.func38, Try.ntmps38
  go_wp2_with fail
  go_loopw [1, 5] (fun x y wr => ∃ (i : Nat), i ≤ xs.length ∧ y = .int .i64 i ∧ x = .int .i64 (k + cntL cntTaint (xs.take i)) ∧ Own wr B (mkUp mkTaint cntTaint xs k i) [.slice A xs.length c] F ∧ Upd F w wr) (fun _ y _ => xs.length - (intOf y).toNat)
  case atStart => exact ⟨0, Nat.zero_le _, rfl, by simp [cntL], by rw [mkUp_zero]; exact h, .refl _ _⟩
  case round =>
    obtain ⟨i, hi, rfl, rfl, hO, hu⟩ := hrel
    by_cases hlt : i < xs.length
    · have hle : (cntL cntTaint (xs.take i) : Int) + cntTaint xs[i] ≤ cntL cntTaint xs := by have := cntL_succ (cnt := cntTaint) hlt; have := cntL_le (cnt := cntTaint) xs (i + 1); omega
      have hsuc := cntL_succ (cnt := cntTaint) hlt
      obtain ⟨b, o, ck, Fk, rfl, hbF, hsub, hbk, hOe, hE, hcl⟩ := hO.elt (k := i) (by rw [mkUp_len hi]; exact hlt)
      rw [mkUp_get hlt] at hOe
      have hRe := hOe.rd
      obtain ⟨hck, hFk, hkey, hvalue, heffect⟩ := rd_Taint hRe
      clear hRe
      subst hck hFk
      generalize hkk : k + (cntL cntTaint (xs.take i) : Int) = kk
      have hkk0 : 0 ≤ kk := by omega
      have hkk1 : kk + cntTaint xs[i] ≤ 1073741823 := by omega
      simp only [cntTaint] at hkk1
      push_cast at hkk1
      clear hO
      have q0 := hE.at_ (q := o + i * 3) (j := 0) (by show _ = o + i * 3 + 0; omega) rfl
      have z0 := hE.plain.frozen (o + i * 3)
      have q1 := hE.at_ (q := o + i * 3 + 1) (j := 1) (by show _ = o + i * 3 + 1; omega) rfl
      have z1 := hE.plain.frozen (o + i * 3 + 1)
      have q2 := hE.at_ (q := o + i * 3 + 2) (j := 2) (by show _ = o + i * 3 + 2; omega) rfl
      have z2 := hE.plain.frozen (o + i * 3 + 2)
      go_wp2_with fail
      clear q0 z0 q1 z1 q2 z2
      refine (markText_any (kk) _ (by omega) (by omega)).mono ?_
      rintro e w1 ⟨rfl, hb1⟩
      replace hE := hE.ext hb1
      have q0 := hE.at_ (q := o + i * 3) (j := 0) (by show _ = o + i * 3 + 0; omega) rfl
      have z0 := hE.plain.frozen (o + i * 3)
      have q1 := hE.at_ (q := o + i * 3 + 1) (j := 1) (by show _ = o + i * 3 + 1; omega) rfl
      have z1 := hE.plain.frozen (o + i * 3 + 1)
      have q2 := hE.at_ (q := o + i * 3 + 2) (j := 2) (by show _ = o + i * 3 + 2; omega) rfl
      have z2 := hE.plain.frozen (o + i * 3 + 2)
      go_wp2_with fail
      clear q0 z0 q1 z1 q2 z2
      replace hE := hE.set (j := 0) (q := o + i * 3) (by simp) (by show _ = o + i * 3 + 0; omega) (.string (mtext (kk)))
      simp only [List.set_cons_zero, List.set_cons_succ] at hE
      refine (markText_any (kk + 1) _ (by omega) (by omega)).mono ?_
      rintro e w2 ⟨rfl, hb2⟩
      replace hE := hE.ext hb2
      have q0 := hE.at_ (q := o + i * 3) (j := 0) (by show _ = o + i * 3 + 0; omega) rfl
      have z0 := hE.plain.frozen (o + i * 3)
      have q1 := hE.at_ (q := o + i * 3 + 1) (j := 1) (by show _ = o + i * 3 + 1; omega) rfl
      have z1 := hE.plain.frozen (o + i * 3 + 1)
      have q2 := hE.at_ (q := o + i * 3 + 2) (j := 2) (by show _ = o + i * 3 + 2; omega) rfl
      have z2 := hE.plain.frozen (o + i * 3 + 2)
      go_wp2_with fail
      clear q0 z0 q1 z1 q2 z2
      replace hE := hE.set (j := 1) (q := o + i * 3 + 1) (by simp) (by show _ = o + i * 3 + 1; omega) (.string (mtext (kk + 1)))
      simp only [List.set_cons_zero, List.set_cons_succ] at hE
      replace hE := hE.set (j := 2) (q := o + i * 3 + 2) (by simp) (by show _ = o + i * 3 + 2; omega) (.int .i64 (kk + 1 + 1))
      simp only [List.set_cons_zero, List.set_cons_succ] at hE
      have hP := hcl _ (mkTaint xs[i] kk) _ ⟨(by have := (rd_pair (rdStr ((w2.setCell ⟨b, o + i * 3 + 1, none⟩ (.string (mtext (kk + 1)))).setCell ⟨b, o + i * 3 + 2, none⟩ (.int .i64 (kk + 1 + 1))) (mtext (kk)) (mtext63 (by omega))) (rd_pair (rdStr ((w2.setCell ⟨b, o + i * 3 + 1, none⟩ (.string (mtext (kk + 1)))).setCell ⟨b, o + i * 3 + 2, none⟩ (.int .i64 (kk + 1 + 1))) (mtext (kk + 1)) (mtext63 (by omega))) (rdInt ((w2.setCell ⟨b, o + i * 3 + 1, none⟩ (.string (mtext (kk + 1)))).setCell ⟨b, o + i * 3 + 2, none⟩ (.int .i64 (kk + 1 + 1))) ((kk + 1 + 1)) (by unfold I64; omega)))); simp only [List.nil_append, List.append_nil, List.append_assoc, List.cons_append] at this; exact this), hOe.nodup, hOe.base, (by intro y hy; cases hy)⟩ hE
      have hU := hu.trans (hE.upd.mono (G := F) (fun y hy => by rcases List.mem_cons.1 hy with rfl | hy; exact hbF; exact hsub y hy))
      have hset : (mkUp mkTaint cntTaint xs k i).set i (mkTaint xs[i] kk) = mkUp mkTaint cntTaint xs k (i + 1) := by rw [← hkk]; exact mkUp_set hlt
      rw [hset] at hP
      refine ⟨⟨i + 1, by omega, by go_num, ?_, hP, hU⟩, by simp [intOf]; omega⟩
      rw [hsuc]; simp only [cntTaint]; congr 1; push_cast; omega
    · have hkl : i = xs.length := by omega
      subst hkl
      go_wp2
      go_ret
      rw [mkUp_full] at hO
      simp only [List.take_length]
      exact ⟨rfl, hO, hu⟩
end Go.Proofs.Ytjoclfenghenjaa

namespace Go.Proofs.Ytjoclfenghenjaa
open Go.ChangeShapes Go.WideShapes Go.ChangeAt Go.RowKit
set_option linter.unusedVariables false
set_option linter.unusedSimpArgs false

def mkTolerance (x : Tolerance) (k : Int) : Tolerance := { key := mtext (k), equal := decide ((k + 1) % 3 = 0), value := mtext (k + 1 + 1), effect := (k + 1 + 1 + 1) }
def cntTolerance (x : Tolerance) : Nat := 1 + 1 + 1 + 1
set_option maxRecDepth 100000 in
set_option maxHeartbeats 2000000 in
theorem markToleranceS_any (xs : List Tolerance) (A : Option Addr) (n c : Nat) (F : List Nat) (B : Nat) (k : Int) (w : World) (h : Own w B xs [.slice A n c] F) (hn : n = xs.length) (hk0 : 0 ≤ k) (hk : k + cntL cntTolerance xs ≤ 1073741823) :
    Calls Try.prog 40 #[.slice A n c, .int .i64 k] w fun e w' => e = .returned (.int .i64 (k + cntL cntTolerance xs)) ∧ Own w' B (mkL mkTolerance cntTolerance xs k) [.slice A n c] F ∧ Upd F w w' := by
  subst hn
  have hlen := own_len h
  go_enter Try.func40, Try.ntmps40
  go_wp2_with fail
  go_loopw [1, 5] (fun x y wr => ∃ (i : Nat), i ≤ xs.length ∧ y = .int .i64 i ∧ x = .int .i64 (k + cntL cntTolerance (xs.take i)) ∧ Own wr B (mkUp mkTolerance cntTolerance xs k i) [.slice A xs.length c] F ∧ Upd F w wr) (fun _ y _ => xs.length - (intOf y).toNat)
  case atStart => exact ⟨0, Nat.zero_le _, rfl, by simp [cntL], by rw [mkUp_zero]; exact h, .refl _ _⟩
  case round =>
    obtain ⟨i, hi, rfl, rfl, hO, hu⟩ := hrel
    by_cases hlt : i < xs.length
    · have hle : (cntL cntTolerance (xs.take i) : Int) + cntTolerance xs[i] ≤ cntL cntTolerance xs := by have := cntL_succ (cnt := cntTolerance) hlt; have := cntL_le (cnt := cntTolerance) xs (i + 1); omega
      have hsuc := cntL_succ (cnt := cntTolerance) hlt
      obtain ⟨b, o, ck, Fk, rfl, hbF, hsub, hbk, hOe, hE, hcl⟩ := hO.elt (k := i) (by rw [mkUp_len hi]; exact hlt)
      rw [mkUp_get hlt] at hOe
      have hRe := hOe.rd
      obtain ⟨hck, hFk, hkey, hvalue, heffect⟩ := rd_Tolerance hRe
      clear hRe
      subst hck hFk
      generalize hkk : k + (cntL cntTolerance (xs.take i) : Int) = kk
      have hkk0 : 0 ≤ kk := by omega
      have hkk1 : kk + cntTolerance xs[i] ≤ 1073741823 := by omega
      simp only [cntTolerance] at hkk1
      push_cast at hkk1
      clear hO
      have q0 := hE.at_ (q := o + i * 4) (j := 0) (by show _ = o + i * 4 + 0; omega) rfl
      have z0 := hE.plain.frozen (o + i * 4)
      have q1 := hE.at_ (q := o + i * 4 + 1) (j := 1) (by show _ = o + i * 4 + 1; omega) rfl
      have z1 := hE.plain.frozen (o + i * 4 + 1)
      have q2 := hE.at_ (q := o + i * 4 + 2) (j := 2) (by show _ = o + i * 4 + 2; omega) rfl
      have z2 := hE.plain.frozen (o + i * 4 + 2)
      have q3 := hE.at_ (q := o + i * 4 + 3) (j := 3) (by show _ = o + i * 4 + 3; omega) rfl
      have z3 := hE.plain.frozen (o + i * 4 + 3)
      go_wp2_with fail
      clear q0 z0 q1 z1 q2 z2 q3 z3
      refine (markText_any (kk) _ (by omega) (by omega)).mono ?_
      rintro e w1 ⟨rfl, hb1⟩
      replace hE := hE.ext hb1
      have q0 := hE.at_ (q := o + i * 4) (j := 0) (by show _ = o + i * 4 + 0; omega) rfl
      have z0 := hE.plain.frozen (o + i * 4)
      have q1 := hE.at_ (q := o + i * 4 + 1) (j := 1) (by show _ = o + i * 4 + 1; omega) rfl
      have z1 := hE.plain.frozen (o + i * 4 + 1)
      have q2 := hE.at_ (q := o + i * 4 + 2) (j := 2) (by show _ = o + i * 4 + 2; omega) rfl
      have z2 := hE.plain.frozen (o + i * 4 + 2)
      have q3 := hE.at_ (q := o + i * 4 + 3) (j := 3) (by show _ = o + i * 4 + 3; omega) rfl
      have z3 := hE.plain.frozen (o + i * 4 + 3)
      go_wp2_with fail
      clear q0 z0 q1 z1 q2 z2 q3 z3
      replace hE := hE.set (j := 0) (q := o + i * 4) (by simp) (by show _ = o + i * 4 + 0; omega) (.string (mtext (kk)))
      simp only [List.set_cons_zero, List.set_cons_succ] at hE
      replace hE := hE.set (j := 1) (q := o + i * 4 + 1) (by simp) (by show _ = o + i * 4 + 1; omega) (.bool (decide ((kk + 1) % 3 = 0)))
      simp only [List.set_cons_zero, List.set_cons_succ] at hE
      refine (markText_any (kk + 1 + 1) _ (by omega) (by omega)).mono ?_
      rintro e w2 ⟨rfl, hb2⟩
      replace hE := hE.ext hb2
      have q0 := hE.at_ (q := o + i * 4) (j := 0) (by show _ = o + i * 4 + 0; omega) rfl
      have z0 := hE.plain.frozen (o + i * 4)
      have q1 := hE.at_ (q := o + i * 4 + 1) (j := 1) (by show _ = o + i * 4 + 1; omega) rfl
      have z1 := hE.plain.frozen (o + i * 4 + 1)
      have q2 := hE.at_ (q := o + i * 4 + 2) (j := 2) (by show _ = o + i * 4 + 2; omega) rfl
      have z2 := hE.plain.frozen (o + i * 4 + 2)
      have q3 := hE.at_ (q := o + i * 4 + 3) (j := 3) (by show _ = o + i * 4 + 3; omega) rfl
      have z3 := hE.plain.frozen (o + i * 4 + 3)
      go_wp2_with fail
      clear q0 z0 q1 z1 q2 z2 q3 z3
      replace hE := hE.set (j := 2) (q := o + i * 4 + 2) (by simp) (by show _ = o + i * 4 + 2; omega) (.string (mtext (kk + 1 + 1)))
      simp only [List.set_cons_zero, List.set_cons_succ] at hE
      replace hE := hE.set (j := 3) (q := o + i * 4 + 3) (by simp) (by show _ = o + i * 4 + 3; omega) (.int .i64 (kk + 1 + 1 + 1))
      simp only [List.set_cons_zero, List.set_cons_succ] at hE
      have hP := hcl _ (mkTolerance xs[i] kk) _ ⟨(by have := (rd_pair (rdStr ((w2.setCell ⟨b, o + i * 4 + 2, none⟩ (.string (mtext (kk + 1 + 1)))).setCell ⟨b, o + i * 4 + 3, none⟩ (.int .i64 (kk + 1 + 1 + 1))) (mtext (kk)) (mtext63 (by omega))) (rd_pair (rdBool ((w2.setCell ⟨b, o + i * 4 + 2, none⟩ (.string (mtext (kk + 1 + 1)))).setCell ⟨b, o + i * 4 + 3, none⟩ (.int .i64 (kk + 1 + 1 + 1))) (decide ((kk + 1) % 3 = 0))) (rd_pair (rdStr ((w2.setCell ⟨b, o + i * 4 + 2, none⟩ (.string (mtext (kk + 1 + 1)))).setCell ⟨b, o + i * 4 + 3, none⟩ (.int .i64 (kk + 1 + 1 + 1))) (mtext (kk + 1 + 1)) (mtext63 (by omega))) (rdInt ((w2.setCell ⟨b, o + i * 4 + 2, none⟩ (.string (mtext (kk + 1 + 1)))).setCell ⟨b, o + i * 4 + 3, none⟩ (.int .i64 (kk + 1 + 1 + 1))) ((kk + 1 + 1 + 1)) (by unfold I64; omega))))); simp only [List.nil_append, List.append_nil, List.append_assoc, List.cons_append] at this; exact this), hOe.nodup, hOe.base, (by intro y hy; cases hy)⟩ hE
      have hU := hu.trans (hE.upd.mono (G := F) (fun y hy => by rcases List.mem_cons.1 hy with rfl | hy; exact hbF; exact hsub y hy))
      have hset : (mkUp mkTolerance cntTolerance xs k i).set i (mkTolerance xs[i] kk) = mkUp mkTolerance cntTolerance xs k (i + 1) := by rw [← hkk]; exact mkUp_set hlt
      rw [hset] at hP
      refine ⟨⟨i + 1, by omega, by go_num, ?_, hP, hU⟩, by simp [intOf]; omega⟩
      rw [hsuc]; simp only [cntTolerance]; congr 1; push_cast; omega
    · have hkl : i = xs.length := by omega
      subst hkl
      go_wp2
      go_ret
      rw [mkUp_full] at hO
      simp only [List.take_length]
      exact ⟨rfl, hO, hu⟩
end Go.Proofs.Ytjoclfenghenjaa

namespace Go.Proofs.Ytjoclfenghenjaa
open Go.ChangeShapes Go.WideShapes Go.ChangeAt Go.RowKit
set_option linter.unusedVariables false
set_option linter.unusedSimpArgs false

def mkNeed (x : Need) (k : Int) : Need := { key := mtext (k), op := (k + 1), values := mkL mkStr cntStr x.values (k + 1 + 1) }
def cntNeed (x : Need) : Nat := 1 + 1 + cntL cntStr x.values
set_option maxRecDepth 100000 in
set_option maxHeartbeats 2000000 in
theorem markNeedS_any (xs : List Need) (A : Option Addr) (n c : Nat) (F : List Nat) (B : Nat) (k : Int) (w : World) (h : Own w B xs [.slice A n c] F) (hn : n = xs.length) (hk0 : 0 ≤ k) (hk : k + cntL cntNeed xs ≤ 1073741823) :
    Calls Try.prog 39 #[.slice A n c, .int .i64 k] w fun e w' => e = .returned (.int .i64 (k + cntL cntNeed xs)) ∧ Own w' B (mkL mkNeed cntNeed xs k) [.slice A n c] F ∧ Upd F w w' := by
  subst hn
  have hlen := own_len h
  go_enter Try.func39, Try.ntmps39
  go_wp2_with fail
  go_loopw [1, 5] (fun x y wr => ∃ (i : Nat), i ≤ xs.length ∧ y = .int .i64 i ∧ x = .int .i64 (k + cntL cntNeed (xs.take i)) ∧ Own wr B (mkUp mkNeed cntNeed xs k i) [.slice A xs.length c] F ∧ Upd F w wr) (fun _ y _ => xs.length - (intOf y).toNat)
  case atStart => exact ⟨0, Nat.zero_le _, rfl, by simp [cntL], by rw [mkUp_zero]; exact h, .refl _ _⟩
  case round =>
    obtain ⟨i, hi, rfl, rfl, hO, hu⟩ := hrel
    by_cases hlt : i < xs.length
    · have hle : (cntL cntNeed (xs.take i) : Int) + cntNeed xs[i] ≤ cntL cntNeed xs := by have := cntL_succ (cnt := cntNeed) hlt; have := cntL_le (cnt := cntNeed) xs (i + 1); omega
      have hsuc := cntL_succ (cnt := cntNeed) hlt
      obtain ⟨b, o, ck, Fk, rfl, hbF, hsub, hbk, hOe, hE, hcl⟩ := hO.elt (k := i) (by rw [mkUp_len hi]; exact hlt)
      rw [mkUp_get hlt] at hOe
      have hRe := hOe.rd
      obtain ⟨Avalues, cvalues, Fvalues, hck, hFk, hkey, hop, hvalues⟩ := rd_Need hRe
      clear hRe
      subst hck hFk
      have hOvalues : Own wr B xs[i].values [.slice Avalues xs[i].values.length cvalues] Fk := ⟨hvalues, hOe.nodup, fun y hy => hOe.base y (by simp [hy]), fun y hy => hOe.plain y (by simp [hy])⟩
      have hbvalues : b ∉ Fk := fun hb => hbk (by simp [hb])
      generalize hkk : k + (cntL cntNeed (xs.take i) : Int) = kk
      have hkk0 : 0 ≤ kk := by omega
      have hkk1 : kk + cntNeed xs[i] ≤ 1073741823 := by omega
      simp only [cntNeed] at hkk1
      push_cast at hkk1
      clear hO
      have q0 := hE.at_ (q := o + i * 3) (j := 0) (by show _ = o + i * 3 + 0; omega) rfl
      have z0 := hE.plain.frozen (o + i * 3)
      have q1 := hE.at_ (q := o + i * 3 + 1) (j := 1) (by show _ = o + i * 3 + 1; omega) rfl
      have z1 := hE.plain.frozen (o + i * 3 + 1)
      have q2 := hE.at_ (q := o + i * 3 + 2) (j := 2) (by show _ = o + i * 3 + 2; omega) rfl
      have z2 := hE.plain.frozen (o + i * 3 + 2)
      go_wp2_with fail
      clear q0 z0 q1 z1 q2 z2
      refine (markText_any (kk) _ (by omega) (by omega)).mono ?_
      rintro e w1 ⟨rfl, hb1⟩
      replace hE := hE.ext hb1
      replace hOvalues := hOvalues.ext hb1
      have q0 := hE.at_ (q := o + i * 3) (j := 0) (by show _ = o + i * 3 + 0; omega) rfl
      have z0 := hE.plain.frozen (o + i * 3)
      have q1 := hE.at_ (q := o + i * 3 + 1) (j := 1) (by show _ = o + i * 3 + 1; omega) rfl
      have z1 := hE.plain.frozen (o + i * 3 + 1)
      have q2 := hE.at_ (q := o + i * 3 + 2) (j := 2) (by show _ = o + i * 3 + 2; omega) rfl
      have z2 := hE.plain.frozen (o + i * 3 + 2)
      go_wp2_with fail
      clear q0 z0 q1 z1 q2 z2
      replace hE := hE.set (j := 0) (q := o + i * 3) (by simp) (by show _ = o + i * 3 + 0; omega) (.string (mtext (kk)))
      simp only [List.set_cons_zero, List.set_cons_succ] at hE
      replace hOvalues := hOvalues.setC (p := ⟨b, o + i * 3, none⟩) hbvalues (.string (mtext (kk)))
      replace hE := hE.set (j := 1) (q := o + i * 3 + 1) (by simp) (by show _ = o + i * 3 + 1; omega) (.int .i64 (kk + 1))
      simp only [List.set_cons_zero, List.set_cons_succ] at hE
      replace hOvalues := hOvalues.setC (p := ⟨b, o + i * 3 + 1, none⟩) hbvalues (.int .i64 (kk + 1))
      refine (markStringS_any xs[i].values _ _ _ _ _ (kk + 1 + 1) _ hOvalues rfl (by omega) (by omega)).mono ?_
      rintro e w2 ⟨rfl, hNvalues, hUvalues⟩
      replace hE := hE.step hUvalues (fun y hy => by simp [hy]) hbvalues
      replace hOvalues := hNvalues
      have q0 := hE.at_ (q := o + i * 3) (j := 0) (by show _ = o + i * 3 + 0; omega) rfl
      have z0 := hE.plain.frozen (o + i * 3)
      have q1 := hE.at_ (q := o + i * 3 + 1) (j := 1) (by show _ = o + i * 3 + 1; omega) rfl
      have z1 := hE.plain.frozen (o + i * 3 + 1)
      have q2 := hE.at_ (q := o + i * 3 + 2) (j := 2) (by show _ = o + i * 3 + 2; omega) rfl
      have z2 := hE.plain.frozen (o + i * 3 + 2)
      go_wp2_with fail
      clear q0 z0 q1 z1 q2 z2
      have hP := hcl _ (mkNeed xs[i] kk) _ ⟨(by have := (rd_pair (rdStr w2 (mtext (kk)) (mtext63 (by omega))) (rd_pair (rdInt w2 ((kk + 1)) (by unfold I64; omega)) (hOvalues.rd))); simp only [List.nil_append, List.append_nil, List.append_assoc, List.cons_append] at this; exact this), hOe.nodup, hOe.base, (by intro y hy; (try simp only [List.mem_append] at hy); rcases hy with hy; exact hOvalues.plain y hy)⟩ hE
      have hU := hu.trans (hE.upd.mono (G := F) (fun y hy => by rcases List.mem_cons.1 hy with rfl | hy; exact hbF; exact hsub y hy))
      have hset : (mkUp mkNeed cntNeed xs k i).set i (mkNeed xs[i] kk) = mkUp mkNeed cntNeed xs k (i + 1) := by rw [← hkk]; exact mkUp_set hlt
      rw [hset] at hP
      refine ⟨⟨i + 1, by omega, by go_num, ?_, hP, hU⟩, by simp [intOf]; omega⟩
      rw [hsuc]; simp only [cntNeed]; congr 1; push_cast; omega
    · have hkl : i = xs.length := by omega
      subst hkl
      go_wp2
      go_ret
      rw [mkUp_full] at hO
      simp only [List.take_length]
      exact ⟨rfl, hO, hu⟩
end Go.Proofs.Ytjoclfenghenjaa

namespace Go.Proofs.Ytjoclfenghenjaa
open Go.ChangeShapes Go.WideShapes Go.ChangeAt Go.RowKit
set_option linter.unusedVariables false
set_option linter.unusedSimpArgs false

theorem cntLabel_mk (x : Label) (k : Int) : cntLabel (mkLabel x k) = cntLabel x := by simp [cntLabel, mkLabel]
theorem mkLabel_idem (x : Label) (k : Int) : mkLabel (mkLabel x k) k = mkLabel x k := by simp [mkLabel]
end Go.Proofs.Ytjoclfenghenjaa

namespace Go.Proofs.Ytjoclfenghenjaa
open Go.ChangeShapes Go.WideShapes Go.ChangeAt Go.RowKit
set_option linter.unusedVariables false
set_option linter.unusedSimpArgs false

theorem cntTaint_mk (x : Taint) (k : Int) : cntTaint (mkTaint x k) = cntTaint x := by simp [cntTaint, mkTaint]
theorem mkTaint_idem (x : Taint) (k : Int) : mkTaint (mkTaint x k) k = mkTaint x k := by simp [mkTaint]
end Go.Proofs.Ytjoclfenghenjaa

namespace Go.Proofs.Ytjoclfenghenjaa
open Go.ChangeShapes Go.WideShapes Go.ChangeAt Go.RowKit
set_option linter.unusedVariables false
set_option linter.unusedSimpArgs false

theorem cntTolerance_mk (x : Tolerance) (k : Int) : cntTolerance (mkTolerance x k) = cntTolerance x := by simp [cntTolerance, mkTolerance]
theorem mkTolerance_idem (x : Tolerance) (k : Int) : mkTolerance (mkTolerance x k) k = mkTolerance x k := by simp [mkTolerance]
end Go.Proofs.Ytjoclfenghenjaa

namespace Go.Proofs.Ytjoclfenghenjaa
open Go.ChangeShapes Go.WideShapes Go.ChangeAt Go.RowKit
set_option linter.unusedVariables false
set_option linter.unusedSimpArgs false

theorem cntNeed_mk (x : Need) (k : Int) : cntNeed (mkNeed x k) = cntNeed x := by simp [cntNeed, mkNeed, cntL_mkL cntStr_mk]
theorem mkNeed_idem (x : Need) (k : Int) : mkNeed (mkNeed x k) k = mkNeed x k := by simp [mkNeed, mkL_idem cntStr_mk mkStr_idem, cntL_mkL cntStr_mk]
end Go.Proofs.Ytjoclfenghenjaa

namespace Go.Proofs.Ytjoclfenghenjaa
open Go.ChangeShapes Go.WideShapes Go.ChangeAt Go.RowKit
set_option linter.unusedVariables false
set_option linter.unusedSimpArgs false

theorem cntLabel_le (x : Label) : cntLabel x ≤ 2 * (x.wt + 1) := by
  simp only [cntLabel, wtS, Label.wt] at *
  omega
end Go.Proofs.Ytjoclfenghenjaa

namespace Go.Proofs.Ytjoclfenghenjaa
open Go.ChangeShapes Go.WideShapes Go.ChangeAt Go.RowKit
set_option linter.unusedVariables false
set_option linter.unusedSimpArgs false

theorem cntTaint_le (x : Taint) : cntTaint x ≤ 3 * (x.wt + 1) := by
  simp only [cntTaint, wtS, Taint.wt] at *
  omega
end Go.Proofs.Ytjoclfenghenjaa

namespace Go.Proofs.Ytjoclfenghenjaa
open Go.ChangeShapes Go.WideShapes Go.ChangeAt Go.RowKit
set_option linter.unusedVariables false
set_option linter.unusedSimpArgs false

theorem cntTolerance_le (x : Tolerance) : cntTolerance x ≤ 4 * (x.wt + 1) := by
  simp only [cntTolerance, wtS, Tolerance.wt] at *
  omega
end Go.Proofs.Ytjoclfenghenjaa

namespace Go.Proofs.Ytjoclfenghenjaa
open Go.ChangeShapes Go.WideShapes Go.ChangeAt Go.RowKit
set_option linter.unusedVariables false
set_option linter.unusedSimpArgs false

theorem cntNeed_le (x : Need) : cntNeed x ≤ 2 * (x.wt + 1) := by
  have h0 := cntL_wt (f := ByteArray.size) cntStr_le x.values
  simp only [cntNeed, wtS, Need.wt] at *
  omega
end Go.Proofs.Ytjoclfenghenjaa
