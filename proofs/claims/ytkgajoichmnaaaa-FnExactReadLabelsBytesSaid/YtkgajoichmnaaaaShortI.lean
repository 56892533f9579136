/- ReadShort, of the program. No condition. -/
import Derived.Test.YtkgajoichmnaaaaRdP
import Derived.Test.YtkgajoichmnaaaaReadVar
namespace Go.Proofs.Ytkgajoichmnaaaa
open Dat (rd)
open Go.ChangeShapes Go.WideShapes Go.ChangeAt Go.RowKit
set_option linter.unusedVariables false
set_option linter.unusedSimpArgs false
set_option maxRecDepth 100000 in
set_option maxHeartbeats 1000000 in
theorem ReadShort_impl (s : ByteArray) (a : Int) (w : World) (hs : (s.size : Int) ≤ 1048576) (ha : I64 a) :
    Calls Try.prog 58 #[.string s, .int .i64 a] w fun e w' => e = .returned (.tuple #[.string (shortI s a).1, .int .i64 (shortI s a).2]) ∧ w' = w := by
  have hrv := ReadVar_impl s a w hs ha
  rw [rvV_eq] at hrv
  have HRV := Lib.hid hrv
  rcases varI_ways s a with hv | ⟨n, p, hv, hn, hp⟩
  · have HF := Lib.hid (show shortI s a = (⟨#[]⟩, -1) by unfold shortI; rw [hv, if_pos (.inl (by decide))])
    have HV := Lib.hid hv
    clear hrv hv
    go_enter Try.func58, Try.ntmps58
    go_wp2_with fail
    refine HRV.out.mono ?_
    rw [HV.out]
    rintro e w2 ⟨rfl, hb2⟩
    go_wp2
    go_returns
    exact ⟨by rw [HF.out]; rfl, (by first | exact hb2 | rfl)⟩
  · by_cases hle : n ≤ s.size - p
    · have HF := Lib.hid (show shortI s a = (s.extract p (p + n), ((p : Int) + (n : Int))) by
        unfold shortI
        rw [hv, if_neg (by show ¬ ((p : Int) < 0 ∨ (s.size : Int) - (p : Int) < (n : Int)); omega)]
        rfl)
      have HV := Lib.hid hv
      clear hrv hv
      have hle2 : ¬ ((s.size : Int) - (p : Int) < (n : Int)) := by omega
      have hn63 : (n : Int) ≤ 1048576 := by omega
      have hpi : (p : Int) ≤ s.size := by omega
      clear hn
      go_enter Try.func58, Try.ntmps58
      go_wp2_with fail
      refine HRV.out.mono ?_
      rw [HV.out]
      rintro e w2 ⟨rfl, hb2⟩
      go_wp2
      go_returns
      exact ⟨by rw [HF.out]; rfl, (by first | exact hb2 | rfl)⟩
    · have HF := Lib.hid (show shortI s a = (⟨#[]⟩, -1) by
        unfold shortI
        rw [hv, if_pos (by show (p : Int) < 0 ∨ (s.size : Int) - (p : Int) < (n : Int); omega)])
      have HV := Lib.hid hv
      clear hrv hv
      have hle2 : (s.size : Int) - (p : Int) < (n : Int) := by omega
      have hn63 : (n : Int) ≤ 9223372036854775807 := by omega
      clear hn
      go_enter Try.func58, Try.ntmps58
      go_wp2_with fail
      refine HRV.out.mono ?_
      rw [HV.out]
      rintro e w2 ⟨rfl, hb2⟩
      go_wp2
      go_returns
      exact ⟨by rw [HF.out]; rfl, (by first | exact hb2 | rfl)⟩

end Go.Proofs.Ytkgajoichmnaaaa
