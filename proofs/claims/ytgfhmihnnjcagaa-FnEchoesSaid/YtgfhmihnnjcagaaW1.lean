/- walks: numbers -/
import Derived.Test.YtgfhmihnnjcagaaProg
import Derived.Test.YtgfhmihnnjcagaaPlain
import Derived.Test.YtgfhmihnnjcagaaBase
import Derived.WalkKit
import Derived.WalkSpells
import Derived.WalkLawsBesides
import Derived.Handy
import Derived.Deep.RegionHeld3
import Derived.Lib.Hide
set_option linter.unusedVariables false
set_option linter.unusedSimpArgs false
namespace Go.Proofs.Ytgfhmihnnjcagaa
open Go.RowKit
set_option maxHeartbeats 1000000 in
/-- the Go function impl.within -/
theorem within_any (x lo hi : Int) (w : World) :
    Calls Try.prog 79 #[.int .i64 x, .int .i64 lo, .int .i64 hi] w fun en w9 => en = .returned (.bool (inR x lo hi)) ∧ w = w9 := by
  go_enter Try.func79, Try.ntmps79
  go_wp2
  all_goals (go_ret; exact ⟨by simp [inR, *] <;> omega, rfl⟩)
set_option maxHeartbeats 1000000 in
/-- the Go function spec.l01In -/
theorem l01In_any (x lo hi : Int) (w : World) :
    Calls Try.prog 74 #[.int .i64 x, .int .i64 lo, .int .i64 hi] w fun en w9 => en = .returned (.bool (inR x lo hi)) ∧ w = w9 := by
  go_enter Try.func74, Try.ntmps74
  go_wp2
  all_goals (go_ret; exact ⟨by simp [inR, *] <;> omega, rfl⟩)
def iabs (x : Int) : Int := max x (-x)
theorem iabs_pos {x : Int} (h : -x ≤ x) : iabs x = x := by unfold iabs; omega
theorem iabs_neg {x : Int} (h : x < -x) : iabs x = -x := by unfold iabs; omega
set_option maxHeartbeats 1000000 in
/-- the Go function impl.abs -/
theorem iAbs_any (x : Int) (w : World) (h0 : -9223372036854775807 ≤ x) (h1 : x ≤ 9223372036854775807) :
    Calls Try.prog 82 #[.int .i64 x] w fun en w9 => en = .returned (.int .i64 (iabs x)) ∧ w = w9 := by
  go_enter Try.func82, Try.ntmps82
  go_wp2
  all_goals (go_ret; exact ⟨by simp [iabs_pos, iabs_neg, *], rfl⟩)
set_option maxHeartbeats 1000000 in
/-- the Go function spec.l01Abs -/
theorem sAbs_any (x : Int) (w : World) (h0 : -9223372036854775807 ≤ x) (h1 : x ≤ 9223372036854775807) :
    Calls Try.prog 75 #[.int .i64 x] w fun en w9 => en = .returned (.int .i64 (iabs x)) ∧ w = w9 := by
  go_enter Try.func75, Try.ntmps75
  go_wp2
  all_goals (go_ret; exact ⟨by simp [iabs_pos, iabs_neg, *], rfl⟩)

theorem len_any (A : Option Addr) (n c : Nat) (w : World) : Calls Try.prog 83 #[.slice A n c] w fun en w9 => en = .returned (.int .i64 n) ∧ w = w9 := by
  go_enter Try.func83, Try.ntmps83
  go_wp2
  go_ret
  exact ⟨rfl, rfl⟩
end Go.Proofs.Ytgfhmihnnjcagaa
