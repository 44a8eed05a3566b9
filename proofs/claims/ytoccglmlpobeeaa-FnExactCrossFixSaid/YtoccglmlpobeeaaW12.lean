/- walks: absolute values -/
import Derived.Test.YtoccglmlpobeeaaW1
import Derived.Test.YtoccglmlpobeeaaPlain3
import Derived.Lib.Hide
set_option linter.unusedVariables false
set_option linter.unusedSimpArgs false
namespace Go.Proofs.Ytoccglmlpobeeaa
open Go.RowKit
def iabs (x : Int) : Int := max x (-x)
theorem iabs_pos {x : Int} (h : -x ≤ x) : iabs x = x := by unfold iabs; omega
theorem iabs_neg {x : Int} (h : x < -x) : iabs x = -x := by unfold iabs; omega
set_option maxHeartbeats 1000000 in
/-- the Go function impl.abs -/
theorem iAbs_any (x : Int) (w : World) (h0 : -9223372036854775807 ≤ x) (h1 : x ≤ 9223372036854775807) :
    Calls Try.prog 120 #[.int .i64 x] w fun en w9 => en = .returned (.int .i64 (iabs x)) ∧ w = w9 := by
  go_enter Try.func120, Try.ntmps120
  go_wp2
  all_goals (go_ret; exact ⟨by simp [iabs_pos, iabs_neg, *], rfl⟩)
set_option maxHeartbeats 1000000 in
/-- the Go function spec.l01Abs -/
theorem sAbs_any (x : Int) (w : World) (h0 : -9223372036854775807 ≤ x) (h1 : x ≤ 9223372036854775807) :
    Calls Try.prog 121 #[.int .i64 x] w fun en w9 => en = .returned (.int .i64 (iabs x)) ∧ w = w9 := by
  go_enter Try.func121, Try.ntmps121
  go_wp2
  all_goals (go_ret; exact ⟨by simp [iabs_pos, iabs_neg, *], rfl⟩)
end Go.Proofs.Ytoccglmlpobeeaa
