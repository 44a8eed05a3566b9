/- walks: CaseCount -/
import Derived.Test.YtoaldcibmcmfdaaW1
set_option linter.unusedVariables false
set_option linter.unusedSimpArgs false
namespace Go.Proofs.Ytoaldcibmcmfdaa
open Go.RowKit

def caseVal (n : Int) : Int := if inR n 0 12 then p16 n.toNat else 0
def caseCode (n : Int) : Int := if inR n 0 12 then 0 else 2
set_option maxHeartbeats 1000000 in
/-- the Go function impl.CaseCount -/
theorem iCase_any (n : Int) (w : World) :
    Calls Try.prog 15 #[.int .i64 n] w fun en w9 => en = .returned (.tuple #[.int .i64 (caseVal n), .int .i64 (caseCode n)]) ∧ w = w9 := by
  cases hin : inR n 0 12
  · go_enter Try.func15, Try.ntmps15
    go_wp2_with (first | (go_at_call 41; refine (isTrials_any _ _).mono ?_; rintro en w1 ⟨rfl, rfl⟩))
    go_ret2
    exact ⟨by simp [caseVal, caseCode, hin], rfl⟩
  · obtain ⟨k, rfl⟩ := Int.eq_ofNat_of_zero_le (inR_iff.1 hin).1
    have hk : k ≤ 12 := by have := (inR_iff.1 hin).2; omega
    go_enter Try.func15, Try.ntmps15
    go_wp2_with (first | (go_at_call 41; refine (isTrials_any _ _).mono ?_; rintro en w1 ⟨rfl, rfl⟩) | (go_at_call 42; refine (iPower_any _ _ (by omega)).mono ?_; rintro en w1 ⟨rfl, rfl⟩))
    go_ret2
    exact ⟨by simp [caseVal, caseCode, hin], rfl⟩
set_option maxHeartbeats 1000000 in
/-- the Go function spec.CaseCount -/
theorem sCase_any (n : Int) (w : World) :
    Calls Try.prog 14 #[.int .i64 n] w fun en w9 => en = .returned (.tuple #[.int .i64 (caseVal n), .int .i64 (caseCode n)]) ∧ w = w9 := by
  cases hin : inR n 0 12
  · have h2 : (inR n 0 12 && inR 0 0 16) = false := by rw [hin]; rfl
    go_enter Try.func14, Try.ntmps14
    go_wp2_with (first | (go_at_call 39; refine (sScans_any _ _ _).mono ?_; rintro en w1 ⟨rfl, rfl⟩))
    go_ret2
    exact ⟨by simp [caseVal, caseCode, hin], rfl⟩
  · obtain ⟨k, rfl⟩ := Int.eq_ofNat_of_zero_le (inR_iff.1 hin).1
    have hk : k ≤ 12 := by have := (inR_iff.1 hin).2; omega
    have h2 : (inR (k : Int) 0 12 && inR 0 0 16) = true := by rw [hin]; rfl
    go_enter Try.func14, Try.ntmps14
    go_wp2_with (first | (go_at_call 39; refine (sScans_any _ _ _).mono ?_; rintro en w1 ⟨rfl, rfl⟩) | (go_at_call 40; refine (sPower_any _ _ (by omega)).mono ?_; rintro en w1 ⟨rfl, rfl⟩))
    go_ret2
    exact ⟨by simp [caseVal, caseCode, hin], rfl⟩
set_option maxHeartbeats 1000000 in
/-- the Go function laws.FnExactCaseCount -/
theorem lawCaseCount_any (n : Int) (w : World) :
    Calls Try.prog 3 #[.int .i64 n] w fun en w9 => en = .returned (.bool true) ∧ Below w.heap.size w w9 := by
  go_enter Try.func3, Try.ntmps3
  go_wp2_with (first | (go_at_call 14; refine (sCase_any _ _).mono ?_; rintro en w1 ⟨rfl, rfl⟩) | (go_at_call 15; refine (iCase_any _ _).mono ?_; rintro en w1 ⟨rfl, rfl⟩))
  go_ret
  exact ⟨rfl, Below.refl _ _⟩
end Go.Proofs.Ytoaldcibmcmfdaa
