/- walks: numbers, powers, exact counts -/
import Derived.Test.YtoaldcibmcmfdaaProg
import Derived.Test.YtoaldcibmcmfdaaPlain
import Derived.Test.YtoaldcibmcmfdaaBase
import Derived.WalkKit
import Derived.WalkSpells
import Derived.WalkLawsBesides
import Derived.Handy
import Derived.Deep.RegionHeld3
import Derived.Lib.Hide
set_option linter.unusedVariables false
set_option linter.unusedSimpArgs false
namespace Go.Proofs.Ytoaldcibmcmfdaa
open Go.RowKit
set_option maxHeartbeats 1000000 in
/-- the Go function impl.within -/
theorem within_any (x lo hi : Int) (w : World) :
    Calls Try.prog 48 #[.int .i64 x, .int .i64 lo, .int .i64 hi] w fun en w9 => en = .returned (.bool (inR x lo hi)) ∧ w = w9 := by
  go_enter Try.func48, Try.ntmps48
  go_wp2
  all_goals (go_ret; exact ⟨by simp [inR, *] <;> omega, rfl⟩)
set_option maxHeartbeats 1000000 in
/-- the Go function spec.l01In -/
theorem l01In_any (x lo hi : Int) (w : World) :
    Calls Try.prog 47 #[.int .i64 x, .int .i64 lo, .int .i64 hi] w fun en w9 => en = .returned (.bool (inR x lo hi)) ∧ w = w9 := by
  go_enter Try.func47, Try.ntmps47
  go_wp2
  all_goals (go_ret; exact ⟨by simp [inR, *] <;> omega, rfl⟩)
set_option maxHeartbeats 1000000 in
/-- the Go function impl.isTrials -/
theorem isTrials_any (n : Int) (w : World) :
    Calls Try.prog 41 #[.int .i64 n] w fun en w9 => en = .returned (.bool (inR n 0 12)) ∧ w = w9 := by
  go_enter Try.func41, Try.ntmps41
  go_wp2_with (first | (go_at_call 48; refine (within_any _ _ _ _).mono ?_; rintro en w1 ⟨rfl, rfl⟩))
  go_ret
  exact ⟨rfl, rfl⟩
set_option maxHeartbeats 1000000 in
/-- the Go function impl.isChance -/
theorem isChance_any (n : Int) (w : World) :
    Calls Try.prog 45 #[.int .i64 n] w fun en w9 => en = .returned (.bool (inR n 0 16)) ∧ w = w9 := by
  go_enter Try.func45, Try.ntmps45
  go_wp2_with (first | (go_at_call 48; refine (within_any _ _ _ _).mono ?_; rintro en w1 ⟨rfl, rfl⟩))
  go_ret
  exact ⟨rfl, rfl⟩
set_option maxHeartbeats 1000000 in
/-- the Go function impl.isFraction -/
theorem iFrac_any (num den : Int) (w : World) :
    Calls Try.prog 46 #[.int .i64 num, .int .i64 den] w fun en w9 => en = .returned (.bool (inR den 1 1000 && inR num 0 den)) ∧ w = w9 := by
  go_enter Try.func46, Try.ntmps46
  go_wp2_with (first | (go_at_call 48; refine (within_any _ _ _ _).mono ?_; rintro en w1 ⟨rfl, rfl⟩))
  all_goals (go_ret; exact ⟨by simp_all, rfl⟩)
set_option maxHeartbeats 1000000 in
/-- the Go function spec.l13Part -/
theorem sFrac_any (num den : Int) (w : World) :
    Calls Try.prog 43 #[.int .i64 num, .int .i64 den] w fun en w9 => en = .returned (.bool (inR den 1 1000 && inR num 0 den)) ∧ w = w9 := by
  go_enter Try.func43, Try.ntmps43
  go_wp2_with (first | (go_at_call 47; refine (l01In_any _ _ _ _).mono ?_; rintro en w1 ⟨rfl, rfl⟩))
  all_goals (go_ret; exact ⟨by simp_all, rfl⟩)
set_option maxHeartbeats 1000000 in
/-- the Go function spec.l13Scans -/
theorem sScans_any (n a : Int) (w : World) :
    Calls Try.prog 39 #[.int .i64 n, .int .i64 a] w fun en w9 => en = .returned (.bool (inR n 0 12 && inR a 0 16)) ∧ w = w9 := by
  go_enter Try.func39, Try.ntmps39
  go_wp2_with (first | (go_at_call 47; refine (l01In_any _ _ _ _).mono ?_; rintro en w1 ⟨rfl, rfl⟩))
  all_goals (go_ret; exact ⟨by simp_all, rfl⟩)
set_option maxHeartbeats 1000000 in
/-- the Go function impl.isConfirmer -/
theorem iConf_any (m k : Int) (w : World) :
    Calls Try.prog 52 #[.int .i64 m, .int .i64 k] w fun en w9 => en = .returned (.bool (inR k 1 12 && inR m 1 k)) ∧ w = w9 := by
  go_enter Try.func52, Try.ntmps52
  go_wp2_with (first | (go_at_call 48; refine (within_any _ _ _ _).mono ?_; rintro en w1 ⟨rfl, rfl⟩))
  all_goals (go_ret; exact ⟨by simp_all, rfl⟩)
set_option maxHeartbeats 1000000 in
/-- the Go function spec.l13Rule -/
theorem sConf_any (m k : Int) (w : World) :
    Calls Try.prog 50 #[.int .i64 m, .int .i64 k] w fun en w9 => en = .returned (.bool (inR k 1 12 && inR m 1 k)) ∧ w = w9 := by
  go_enter Try.func50, Try.ntmps50
  go_wp2_with (first | (go_at_call 47; refine (l01In_any _ _ _ _).mono ?_; rintro en w1 ⟨rfl, rfl⟩))
  all_goals (go_ret; exact ⟨by simp_all, rfl⟩)

set_option maxHeartbeats 1000000 in
theorem sPower_any (n : Nat) (w : World) (hn : n ≤ 12) :
    Calls Try.prog 40 #[.int .i64 n] w fun en w9 => en = .returned (.int .i64 (p16 n)) ∧ w = w9 := by
  go_enter Try.func40, Try.ntmps40
  go_wp2
  go_loop [0, 3] (fun x o => ∃ k : Nat, k ≤ n ∧ x = .int .i64 ((n - k : Nat) : Int) ∧ o = .int .i64 (p16 k)) (fun x _ => (intOf x).toNat)
  case atStart => exact ⟨0, Nat.zero_le _, rfl, rfl⟩
  case round =>
    obtain ⟨k, hk, rfl, rfl⟩ := hrel
    have hb := p16_le k (by omega)
    have hb0 := p16_pos k
    by_cases hlt : k < n
    · have h1 : (0 : Int) < ((n - k : Nat) : Int) := by omega
      go_wp2
      go_round
      case rel => exact ⟨k + 1, by omega, by first | rfl | (congr 1; omega), by simp [p16]⟩
      case measure => simp [intOf]; omega
    · have h1 : ((n - k : Nat) : Int) ≤ 0 := by omega
      have h2 : k = n := by omega
      have H2 := Lib.hid h2
      clear h2
      go_wp2
      go_ret
      refine ⟨?_, rfl⟩
      rw [H2.out]; rfl
theorem p16_shift (n : Nat) (h : n ≤ 12) : (2 : Int) ^ (4 * n) = p16 n := by
  match n, h with
  | 0, _ | 1, _ | 2, _ | 3, _ | 4, _ | 5, _ | 6, _ | 7, _ | 8, _ | 9, _ | 10, _ | 11, _ | 12, _ => decide
set_option maxHeartbeats 1000000 in
theorem iPower_any (n : Nat) (w : World) (hn : n ≤ 12) :
    Calls Try.prog 42 #[.int .i64 n] w fun en w9 => en = .returned (.int .i64 (p16 n)) ∧ w = w9 := by
  go_enter Try.func42, Try.ntmps42
  go_wp2
  go_ret
  have := p16_pos n
  have := p16_le n hn
  refine ⟨?_, rfl⟩
  rw [p16_shift n hn, IntWalk.wrap64_in _ (by omega)]; rfl
end Go.Proofs.Ytoaldcibmcmfdaa
