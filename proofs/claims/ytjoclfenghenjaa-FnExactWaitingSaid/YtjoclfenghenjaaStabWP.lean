/- The library's stable sort, walked at Placed: swapRange. No condition. -/
import Derived.Test.YtjoclfenghenjaaStabM
import Derived.Deep.RegionLaw
import Derived.Deep.RegionWith
namespace Go.Proofs.Ytjoclfenghenjaa
open Go.ChangeShapes Go.WideShapes Go.ChangeAt Go.RowKit
set_option linter.unusedVariables false
set_option linter.unusedSimpArgs false
/-- a placed pod as its cells stand: what is behind the slices is left open -/
structure PRow where
  name : ByteArray
  la : Option Addr
  ln : Nat
  lc : Nat
  cpu : Int
  mem : Int
  rank : Int
  na : Option Addr
  nn : Nat
  nc : Nat
  ta : Option Addr
  tn : Nat
  tc : Nat
  on : ByteArray
  seq : Int
def prow (x : PRow) : List Value := [.string x.name, .slice x.la x.ln x.lc, .int .i64 x.cpu, .int .i64 x.mem, .int .i64 x.rank, .slice x.na x.nn x.nc, .slice x.ta x.tn x.tc, .string x.on, .int .i64 x.seq]
section
set_option maxRecDepth 100000 in
set_option maxHeartbeats 2000000 in
theorem swapRangeP_any (W0 w : World) (b o c N : Nat) (p u m v q : List PRow) (a bb n : Nat) (f : Value) (h : Stab prow 9 W0 w b o (p ++ (u ++ (m ++ (v ++ q))))) (hN : (p ++ (u ++ (m ++ (v ++ q)))).length ≤ N) (hN2 : N ≤ 1048576) (ha : Hid (p.length = a)) (hu : Hid (u.length = n)) (hv : Hid (v.length = n)) (hm : Hid (p.length + u.length + m.length = bb)) :
    Calls Try.prog 69 #[.slice (some ⟨b, o, none⟩) N c, .int .i64 a, .int .i64 bb, .int .i64 n, f] w fun e w' => e = .returned (.tuple #[]) ∧ Stab prow 9 W0 w' b o (p ++ (v ++ (m ++ (u ++ q)))) := by
  have hlen : a + n + m.length + n ≤ N := by have e1 := ha.out; have e2 := hu.out; have e3 := hv.out; simp only [List.length_append] at hN; omega
  have hbb : bb = a + n + m.length := by have e1 := ha.out; have e2 := hu.out; have e3 := hm.out; omega
  have HBB := Lib.hid hbb
  have hb1 : a + n ≤ bb := by omega
  have hb2 : bb + n ≤ N := by omega
  clear hbb
  go_enter Try.func69, Try.ntmps69
  go_wp2_with fail
  go_loopw [10] (fun i wr => ∃ k : Nat, k ≤ n ∧ i = .int .i64 k ∧ Stab prow 9 W0 wr b o (p ++ (v.take k ++ (u.drop k ++ (m ++ (u.take k ++ (v.drop k ++ q))))))) (fun i _ => n - (intOf i).toNat)
  case atStart => exact ⟨0, Nat.zero_le _, rfl, by simpa using h⟩
  case round =>
    obtain ⟨k, hk, rfl, hS⟩ := hrel
    by_cases hlt : k < n
    · have hku : k < u.length := by have := hu.out; omega
      have hkv : k < v.length := by have := hv.out; omega
      have hluv : u.length = v.length := by rw [hu.out, hv.out]
      have gl := seg_left p u m v q k hku hluv
      have gr := seg_right p u m v q k hkv hluv
      have sg := swap_seg p u m v q k hku hluv
      rw [hm.out] at gr sg
      rw [ha.out] at gl sg
      generalize u[k] = x at gl
      generalize v[k] = y at gr
      have HS := Lib.hid hS
      have qx0 : wr.cell? ⟨b, o + (a + k) * 9, none⟩ = some (.string x.name) := hS.tab _ x gl 0 _ rfl
      have qx1 : wr.cell? ⟨b, o + (a + k) * 9 + 1, none⟩ = some (.slice x.la x.ln x.lc) := hS.tab _ x gl 1 _ rfl
      have qx2 : wr.cell? ⟨b, o + (a + k) * 9 + 2, none⟩ = some (.int .i64 x.cpu) := hS.tab _ x gl 2 _ rfl
      have qx3 : wr.cell? ⟨b, o + (a + k) * 9 + 3, none⟩ = some (.int .i64 x.mem) := hS.tab _ x gl 3 _ rfl
      have qx4 : wr.cell? ⟨b, o + (a + k) * 9 + 4, none⟩ = some (.int .i64 x.rank) := hS.tab _ x gl 4 _ rfl
      have qx5 : wr.cell? ⟨b, o + (a + k) * 9 + 5, none⟩ = some (.slice x.na x.nn x.nc) := hS.tab _ x gl 5 _ rfl
      have qx6 : wr.cell? ⟨b, o + (a + k) * 9 + 6, none⟩ = some (.slice x.ta x.tn x.tc) := hS.tab _ x gl 6 _ rfl
      have qx7 : wr.cell? ⟨b, o + (a + k) * 9 + 7, none⟩ = some (.string x.on) := hS.tab _ x gl 7 _ rfl
      have qx8 : wr.cell? ⟨b, o + (a + k) * 9 + 8, none⟩ = some (.int .i64 x.seq) := hS.tab _ x gl 8 _ rfl
      have qy0 : wr.cell? ⟨b, o + (bb + k) * 9, none⟩ = some (.string y.name) := hS.tab _ y gr 0 _ rfl
      have qy1 : wr.cell? ⟨b, o + (bb + k) * 9 + 1, none⟩ = some (.slice y.la y.ln y.lc) := hS.tab _ y gr 1 _ rfl
      have qy2 : wr.cell? ⟨b, o + (bb + k) * 9 + 2, none⟩ = some (.int .i64 y.cpu) := hS.tab _ y gr 2 _ rfl
      have qy3 : wr.cell? ⟨b, o + (bb + k) * 9 + 3, none⟩ = some (.int .i64 y.mem) := hS.tab _ y gr 3 _ rfl
      have qy4 : wr.cell? ⟨b, o + (bb + k) * 9 + 4, none⟩ = some (.int .i64 y.rank) := hS.tab _ y gr 4 _ rfl
      have qy5 : wr.cell? ⟨b, o + (bb + k) * 9 + 5, none⟩ = some (.slice y.na y.nn y.nc) := hS.tab _ y gr 5 _ rfl
      have qy6 : wr.cell? ⟨b, o + (bb + k) * 9 + 6, none⟩ = some (.slice y.ta y.tn y.tc) := hS.tab _ y gr 6 _ rfl
      have qy7 : wr.cell? ⟨b, o + (bb + k) * 9 + 7, none⟩ = some (.string y.on) := hS.tab _ y gr 7 _ rfl
      have qy8 : wr.cell? ⟨b, o + (bb + k) * 9 + 8, none⟩ = some (.int .i64 y.seq) := hS.tab _ y gr 8 _ rfl
      have qf := hS.plain.frozen
      have ql := hS.plain.lt
      have HGL := Lib.hid gl
      have HGR := Lib.hid gr
      have HSG := Lib.hid sg
      clear hS gl gr sg hluv
      go_wp2_with fail
      go_region
      go_wp2
      have h2 := HS.out.swap_ (fun _ => rfl) HGL.out HGR.out
      rw [HSG.out] at h2
      exact ⟨⟨k + 1, by omega, by go_num, Stab.ext h2 (ext_drew (ext_refl _))⟩, by simp [intOf]; omega⟩
    · have hkl : k = n := by omega
      subst hkl
      rw [← hu.out, List.take_of_length_le (by rw [hu.out, hv.out]; exact Nat.le_refl _), List.drop_length, List.take_length, List.drop_of_length_le (by rw [hu.out, hv.out]; exact Nat.le_refl _), List.nil_append, List.nil_append] at hS
      go_wp2
      go_end0
      exact ⟨rfl, hS⟩
set_option maxRecDepth 100000 in
set_option maxHeartbeats 2000000 in
theorem rotateP_any (W0 w : World) (b o c N : Nat) (p u v q : List PRow) (a mm bb : Nat) (f : Value) (h : Stab prow 9 W0 w b o (p ++ (u ++ (v ++ q)))) (hN : (p ++ (u ++ (v ++ q))).length ≤ N) (hN2 : N ≤ 1048576) (ha : Hid (p.length = a)) (hm : Hid (a + u.length = mm)) (hb : Hid (mm + v.length = bb)) (hu0 : 0 < u.length) (hv0 : 0 < v.length) :
    Calls Try.prog 60 #[.slice (some ⟨b, o, none⟩) N c, .int .i64 a, .int .i64 mm, .int .i64 bb, f] w fun e w' => e = .returned (.tuple #[]) ∧ Stab prow 9 W0 w' b o (p ++ (v ++ (u ++ q))) := by
  have hlen : a + u.length + v.length ≤ N := by have e1 := ha.out; simp only [List.length_append] at hN; omega
  have hmm : a + u.length = mm := hm.out
  have hbb : mm + v.length = bb := hb.out
  have HM := Lib.hid hmm
  have HB := Lib.hid hbb
  have h1 : a ≤ mm := by omega
  have h2 : mm ≤ bb := by omega
  have h3 : bb ≤ N := by omega
  have HNN := Lib.hid hN
  clear hmm hbb hN
  go_enter Try.func60, Try.ntmps60
  go_wp2_with fail
  go_loopw [10, 11] (fun i j wr => ∃ A U V B : List PRow, i = .int .i64 U.length ∧ j = .int .i64 V.length ∧ 0 < U.length ∧ 0 < V.length ∧ Hid (v ++ u = A ++ (V ++ (U ++ B))) ∧ Hid (p.length + A.length + U.length = mm) ∧ Stab prow 9 W0 wr b o (p ++ (A ++ (U ++ (V ++ (B ++ q)))))) (fun i j _ => (intOf i).toNat + (intOf j).toNat)
  case atStart =>
    have e1 := ha.out; have e2 := HM.out; have e3 := HB.out
    exact ⟨[], u, v, [], by simp; omega, by simp; omega, hu0, hv0, Lib.hid (by simp), Lib.hid (by simp; omega), by simpa using h⟩
  case round =>
    obtain ⟨A, U, V, B, rfl, rfl, hU, hV, hE, hP, hS⟩ := hrel
    have hle : A.length + U.length + V.length + B.length = u.length + v.length := by have := congrArg List.length hE.out; simp only [List.length_append] at this; omega
    have hpa : p.length + A.length + U.length = mm := hP.out
    have hUm : U.length ≤ mm := by omega
    have hbn : mm + V.length ≤ N := by have e1 := ha.out; have e2 := HM.out; omega
    have HLE := Lib.hid hle
    have HPA := Lib.hid hpa
    have HS := Lib.hid hS
    clear hle hpa hS
    have hlq : (p ++ (u ++ (v ++ q))).length = p.length + u.length + v.length + q.length := by simp only [List.length_append]; omega
    have HLQ := Lib.hid hlq
    clear hlq
    rcases Nat.lt_trichotomy U.length V.length with hlt | heq | hgt
    · have hne : ((U.length : Int) != V.length) = true := by simp; omega
      go_wp2_with fail
      obtain ⟨V1, V2, rfl, hV2⟩ : ∃ V1 V2, V = V1 ++ V2 ∧ V2.length = U.length := ⟨V.take (V.length - U.length), V.drop (V.length - U.length), (List.take_append_drop ..).symm, by rw [List.length_drop]; omega⟩
      have hpa := HPA.out
      have hle := HLE.out
      have hl : (V1 ++ V2).length = V1.length + V2.length := List.length_append ..
      rw [show (mm : Int) - U.length = ((p.length + A.length : Nat) : Int) by omega, show (mm : Int) + (V1 ++ V2).length - U.length = ((mm + V1.length : Nat) : Int) by omega]
      refine (swapRangeP_any W0 wr b o c N (p ++ A) U V1 V2 (B ++ q) (p.length + A.length) (mm + V1.length) U.length f (by have := HS.out; simpa [List.append_assoc] using this) ?_ hN2 (Lib.hid (by simp)) (Lib.hid rfl) (Lib.hid hV2) (Lib.hid ?_)).mono ?_
      · have := HNN.out; have := HLQ.out; simp only [List.length_append] at *; omega
      · simp only [List.length_append]; omega
      rintro e w2 ⟨rfl, hS2⟩
      clear hpa hle
      go_wp2
      refine ⟨⟨A, V2, V1, U ++ B, by rw [hV2], by first | rfl | (congr 1; omega), by omega, by omega, Lib.hid (by have := hE.out; simpa [List.append_assoc] using this), Lib.hid (by have := HPA.out; omega), by simpa [List.append_assoc] using hS2⟩, by simp only [intOf]; omega⟩
    · have hne : ((U.length : Int) != V.length) = false := by simp; omega
      go_wp2_with fail
      have hpa := HPA.out
      have hle := HLE.out
      rw [show (mm : Int) - V.length = ((p.length + A.length : Nat) : Int) by omega]
      refine (swapRangeP_any W0 wr b o c N (p ++ A) U [] V (B ++ q) (p.length + A.length) mm V.length f (by have := HS.out; simpa [List.append_assoc] using this) ?_ hN2 (Lib.hid (by simp)) (Lib.hid heq) (Lib.hid rfl) (Lib.hid ?_)).mono ?_
      · have := HNN.out; have := HLQ.out; simp only [List.length_append, List.length_nil] at *; omega
      · simp only [List.length_append, List.length_nil]; omega
      rintro e w2 ⟨rfl, hS2⟩
      clear hpa hle heq
      go_wp2
      go_end0
      refine ⟨rfl, ?_⟩
      have e9 : p ++ (v ++ (u ++ q)) = (p ++ A) ++ (V ++ ([] ++ (U ++ (B ++ q)))) := by rw [← List.append_assoc v u q, hE.out]; simp [List.append_assoc]
      rw [e9]
      exact hS2
    · have hne : ((U.length : Int) != V.length) = true := by simp; omega
      go_wp2_with fail
      obtain ⟨U1, U2, rfl, hU1⟩ : ∃ U1 U2, U = U1 ++ U2 ∧ U1.length = V.length := ⟨U.take V.length, U.drop V.length, (List.take_append_drop ..).symm, by rw [List.length_take]; omega⟩
      have hpa := HPA.out
      have hle := HLE.out
      have hl : (U1 ++ U2).length = U1.length + U2.length := List.length_append ..
      rw [show (mm : Int) - (U1 ++ U2).length = ((p.length + A.length : Nat) : Int) by omega]
      refine (swapRangeP_any W0 wr b o c N (p ++ A) U1 U2 V (B ++ q) (p.length + A.length) mm V.length f (by have := HS.out; simpa [List.append_assoc] using this) ?_ hN2 (Lib.hid (by simp)) (Lib.hid hU1) (Lib.hid rfl) (Lib.hid ?_)).mono ?_
      · have := HNN.out; have := HLQ.out; simp only [List.length_append] at *; omega
      · simp only [List.length_append]; omega
      rintro e w2 ⟨rfl, hS2⟩
      clear hpa hle
      go_wp2
      refine ⟨⟨A ++ V, U2, U1, B, by first | rfl | (congr 1; omega), by rw [hU1], by omega, by omega, Lib.hid (by have := hE.out; simpa [List.append_assoc] using this), Lib.hid (by have := HPA.out; simp only [List.length_append] at *; omega), by simpa [List.append_assoc] using hS2⟩, by simp only [intOf]; omega⟩
end
end Go.Proofs.Ytjoclfenghenjaa
