/- walks: EnergyOf -/
import Derived.Test.YtfmhbphbgdijpaaW9
import Derived.Test.YtfmhbphbgdijpaaPlainLaw
set_option linter.unusedVariables false
set_option linter.unusedSimpArgs false
namespace Go.Proofs.Ytfmhbphbgdijpaa
open Go.RowKit

def enVal (xs : List Int) : Int := if isSig xs then corr xs 0 else 0
def enCode (xs : List Int) : Int := if isSig xs then 0 else 1
set_option maxHeartbeats 2000000 in
theorem iEn_any (A : Option Addr) (n c : Nat) (xs : List Int) (w : World) (hn : xs.length = n) (hnc : n ≤ c) (hm : n ≤ 1048576) (hr : Rd w A xs) :
    Calls Try.prog 31 #[.slice A n c] w fun en w9 => en = .returned (.tuple #[.int .i64 (enVal xs), .int .i64 (enCode xs)]) ∧ ∃ m, w9 = w.drewN m := by
  rcases Bool.eq_false_or_eq_true (isSig xs) with h | h
  · have hs := isSig_iff.1 h
    have hl : n ≤ 400 := by rw [← hn]; exact hs.1
    have HB : Hid (Bd 12000 xs) := (Bd.of (by omega) hs.2).mono (by omega)
    have HV : Hid (enVal xs = corr xs 0 ∧ enCode xs = 0) := by show _ ∧ _; simp [enVal, enCode, h]
    clear hs
    go_enter Try.func31, Try.ntmps31
    go_wp2_with (first | (go_at_call 81; refine (iSig_any _ _ _ _ _ (by assumption) (by assumption) (by omega) (by first | assumption | exact Rd.drewN (by assumption) _ | exact Rd.drewN (Rd.drewN (by assumption) _) _)).mono ?_; rintro en w1 ⟨rfl, rfl⟩) | (go_at_call 66; refine (iCorr_any _ _ _ _ _ (by assumption) (by omega) (by assumption) (by first | assumption | exact Rd.drewN (by assumption) _ | exact Rd.drewN (Rd.drewN (by assumption) _) _)).mono ?_; rintro en w1 ⟨rfl, mq, rfl⟩))
    go_ret2
    exact ⟨by rw [HV.out.1, HV.out.2]; rfl, by first | exact ⟨0, rfl⟩ | exact ⟨_, rfl⟩⟩
  · have HV : Hid (enVal xs = 0 ∧ enCode xs = 1) := by show _ ∧ _; simp [enVal, enCode, h]
    go_enter Try.func31, Try.ntmps31
    go_wp2_with (first | (go_at_call 81; refine (iSig_any _ _ _ _ _ (by assumption) (by assumption) (by omega) (by first | assumption | exact Rd.drewN (by assumption) _ | exact Rd.drewN (Rd.drewN (by assumption) _) _)).mono ?_; rintro en w1 ⟨rfl, rfl⟩) | (go_at_call 66; refine (iCorr_any _ _ _ _ _ (by assumption) (by omega) (by assumption) (by first | assumption | exact Rd.drewN (by assumption) _ | exact Rd.drewN (Rd.drewN (by assumption) _) _)).mono ?_; rintro en w1 ⟨rfl, mq, rfl⟩))
    go_ret2
    exact ⟨by rw [HV.out.1, HV.out.2]; rfl, by first | exact ⟨0, rfl⟩ | exact ⟨_, rfl⟩⟩
end Go.Proofs.Ytfmhbphbgdijpaa
