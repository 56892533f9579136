/- Marks on Taint. -/
import Derived.Test.YtaljcihfkblncaaMkBase
import Derived.Test.YtaljcihfkblncaaData
namespace Go.Proofs.Ytaljcihfkblncaa
open Go.ChangeShapes Go.WideShapes Go.ChangeAt Go.RowKit
set_option linter.unusedVariables false
set_option linter.unusedSimpArgs false

def mkTaint (x : Taint) (k : Int) : Taint := { key := mtext (k), value := mtext (k + 1), effect := (k + 1 + 1) }
def cntTaint (x : Taint) : Nat := 1 + 1 + 1
set_option maxRecDepth 100000 in
set_option maxHeartbeats 2000000 in
theorem markTaintS_any (xs : List Taint) (A : Option Addr) (n c : Nat) (F : List Nat) (B : Nat) (k : Int) (w : World) (h : Own w B xs [.slice A n c] F) (hn : n = xs.length) (hk0 : 0 ≤ k) (hk : k + cntL cntTaint xs ≤ 1073741823) :
    Calls Try.prog 114 #[.slice A n c, .int .i64 k] w fun e w' => e = .returned (.int .i64 (k + cntL cntTaint xs)) ∧ Own w' B (mkL mkTaint cntTaint xs k) [.slice A n c] F ∧ Upd F w w' := by
  subst hn
  have hlen := own_len h
  go_enter Try.func114, Try.ntmps114
  go_wp2_with fail
  go_loopw [1, 5] (fun x y wr => ∃ (i : Nat), i ≤ xs.length ∧ y = .int .i64 i ∧ x = .int .i64 (k + cntL cntTaint (xs.take i)) ∧ Own wr B (mkUp mkTaint cntTaint xs k i) [.slice A xs.length c] F ∧ Upd F w wr) (fun _ y _ => xs.length - (intOf y).toNat)
  case atStart => exact ⟨0, Nat.zero_le _, rfl, by simp [cntL], by rw [mkUp_zero]; exact h, .refl _ _⟩
  case round =>
    obtain ⟨i, hi, rfl, rfl, hO, hu⟩ := hrel
    by_cases hlt : i < xs.length
    · have hle : (cntL cntTaint (xs.take i) : Int) + cntTaint xs[i] ≤ cntL cntTaint xs := by have := cntL_succ (cnt := cntTaint) hlt; have := cntL_le (cnt := cntTaint) xs (i + 1); omega
      have hsuc := cntL_succ (cnt := cntTaint) hlt
      obtain ⟨b, o, ck, Fk, rfl, hbF, hsub, hbk, hOe, hE, hcl⟩ := hO.elt (k := i) (by rw [mkUp_len hi]; exact hlt)
      rw [mkUp_get hlt] at hOe
      have hRe := hOe.rd
      obtain ⟨hck, hFk, hkey, hvalue, heffect⟩ := rd_Taint hRe
      clear hRe
      subst hck hFk
      generalize hkk : k + (cntL cntTaint (xs.take i) : Int) = kk
      have hkk0 : 0 ≤ kk := by omega
      have hkk1 : kk + cntTaint xs[i] ≤ 1073741823 := by omega
      simp only [cntTaint] at hkk1
      push_cast at hkk1
      clear hO
      have q0 := hE.at_ (q := o + i * 3) (j := 0) (by show _ = o + i * 3 + 0; omega) rfl
      have z0 := hE.plain.frozen (o + i * 3)
      have q1 := hE.at_ (q := o + i * 3 + 1) (j := 1) (by show _ = o + i * 3 + 1; omega) rfl
      have z1 := hE.plain.frozen (o + i * 3 + 1)
      have q2 := hE.at_ (q := o + i * 3 + 2) (j := 2) (by show _ = o + i * 3 + 2; omega) rfl
      have z2 := hE.plain.frozen (o + i * 3 + 2)
      go_wp2_with fail
      clear q0 z0 q1 z1 q2 z2
      refine (markText_any (kk) _ (by omega) (by omega)).mono ?_
      rintro e w1 ⟨rfl, hb1⟩
      replace hE := hE.ext hb1
      have q0 := hE.at_ (q := o + i * 3) (j := 0) (by show _ = o + i * 3 + 0; omega) rfl
      have z0 := hE.plain.frozen (o + i * 3)
      have q1 := hE.at_ (q := o + i * 3 + 1) (j := 1) (by show _ = o + i * 3 + 1; omega) rfl
      have z1 := hE.plain.frozen (o + i * 3 + 1)
      have q2 := hE.at_ (q := o + i * 3 + 2) (j := 2) (by show _ = o + i * 3 + 2; omega) rfl
      have z2 := hE.plain.frozen (o + i * 3 + 2)
      go_wp2_with fail
      clear q0 z0 q1 z1 q2 z2
      replace hE := hE.set (j := 0) (q := o + i * 3) (by simp) (by show _ = o + i * 3 + 0; omega) (.string (mtext (kk)))
      simp only [List.set_cons_zero, List.set_cons_succ] at hE
      refine (markText_any (kk + 1) _ (by omega) (by omega)).mono ?_
      rintro e w2 ⟨rfl, hb2⟩
      replace hE := hE.ext hb2
      have q0 := hE.at_ (q := o + i * 3) (j := 0) (by show _ = o + i * 3 + 0; omega) rfl
      have z0 := hE.plain.frozen (o + i * 3)
      have q1 := hE.at_ (q := o + i * 3 + 1) (j := 1) (by show _ = o + i * 3 + 1; omega) rfl
      have z1 := hE.plain.frozen (o + i * 3 + 1)
      have q2 := hE.at_ (q := o + i * 3 + 2) (j := 2) (by show _ = o + i * 3 + 2; omega) rfl
      have z2 := hE.plain.frozen (o + i * 3 + 2)
      go_wp2_with fail
      clear q0 z0 q1 z1 q2 z2
      replace hE := hE.set (j := 1) (q := o + i * 3 + 1) (by simp) (by show _ = o + i * 3 + 1; omega) (.string (mtext (kk + 1)))
      simp only [List.set_cons_zero, List.set_cons_succ] at hE
      replace hE := hE.set (j := 2) (q := o + i * 3 + 2) (by simp) (by show _ = o + i * 3 + 2; omega) (.int .i64 (kk + 1 + 1))
      simp only [List.set_cons_zero, List.set_cons_succ] at hE
      have hP := hcl _ (mkTaint xs[i] kk) _ ⟨(by have := (rd_pair (rdStr ((w2.setCell ⟨b, o + i * 3 + 1, none⟩ (.string (mtext (kk + 1)))).setCell ⟨b, o + i * 3 + 2, none⟩ (.int .i64 (kk + 1 + 1))) (mtext (kk)) (mtext63 (by omega))) (rd_pair (rdStr ((w2.setCell ⟨b, o + i * 3 + 1, none⟩ (.string (mtext (kk + 1)))).setCell ⟨b, o + i * 3 + 2, none⟩ (.int .i64 (kk + 1 + 1))) (mtext (kk + 1)) (mtext63 (by omega))) (rdInt ((w2.setCell ⟨b, o + i * 3 + 1, none⟩ (.string (mtext (kk + 1)))).setCell ⟨b, o + i * 3 + 2, none⟩ (.int .i64 (kk + 1 + 1))) ((kk + 1 + 1)) (by unfold I64; omega)))); simp only [List.nil_append, List.append_nil, List.append_assoc, List.cons_append] at this; exact this), hOe.nodup, hOe.base, (by intro y hy; cases hy)⟩ hE
      have hU := hu.trans (hE.upd.mono (G := F) (fun y hy => by rcases List.mem_cons.1 hy with rfl | hy; exact hbF; exact hsub y hy))
      have hset : (mkUp mkTaint cntTaint xs k i).set i (mkTaint xs[i] kk) = mkUp mkTaint cntTaint xs k (i + 1) := by rw [← hkk]; exact mkUp_set hlt
      rw [hset] at hP
      refine ⟨⟨i + 1, by omega, by go_num, ?_, hP, hU⟩, by simp [intOf]; omega⟩
      rw [hsuc]; simp only [cntTaint]; congr 1; push_cast; omega
    · have hkl : i = xs.length := by omega
      subst hkl
      go_wp2
      go_ret
      rw [mkUp_full] at hO
      simp only [List.take_length]
      exact ⟨rfl, hO, hu⟩
end Go.Proofs.Ytaljcihfkblncaa
