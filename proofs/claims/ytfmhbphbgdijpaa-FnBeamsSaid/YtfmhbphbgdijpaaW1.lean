/- walks: numbers -/
import Derived.Test.YtfmhbphbgdijpaaProg
import Derived.Test.YtfmhbphbgdijpaaPlain
import Derived.Test.YtfmhbphbgdijpaaBase
import Derived.WalkKit
import Derived.WalkSpells
import Derived.WalkLawsBesides
import Derived.Handy
import Derived.Deep.RegionHeld3
import Derived.Lib.Hide
set_option linter.unusedVariables false
set_option linter.unusedSimpArgs false
namespace Go.Proofs.Ytfmhbphbgdijpaa
open Go.RowKit
set_option maxHeartbeats 1000000 in
/-- the Go function impl.within -/
theorem within_any (x lo hi : Int) (w : World) :
    Calls Try.prog 54 #[.int .i64 x, .int .i64 lo, .int .i64 hi] w fun en w9 => en = .returned (.bool (inR x lo hi)) ∧ w = w9 := by
  go_enter Try.func54, Try.ntmps54
  go_wp2
  all_goals (go_ret; exact ⟨by simp [inR, *] <;> omega, rfl⟩)
set_option maxHeartbeats 1000000 in
/-- the Go function spec.l01In -/
theorem l01In_any (x lo hi : Int) (w : World) :
    Calls Try.prog 91 #[.int .i64 x, .int .i64 lo, .int .i64 hi] w fun en w9 => en = .returned (.bool (inR x lo hi)) ∧ w = w9 := by
  go_enter Try.func91, Try.ntmps91
  go_wp2
  all_goals (go_ret; exact ⟨by simp [inR, *] <;> omega, rfl⟩)
def iabs (x : Int) : Int := max x (-x)
theorem iabs_pos {x : Int} (h : -x ≤ x) : iabs x = x := by unfold iabs; omega
theorem iabs_neg {x : Int} (h : x < -x) : iabs x = -x := by unfold iabs; omega
set_option maxHeartbeats 1000000 in
/-- the Go function impl.abs -/
theorem iAbs_any (x : Int) (w : World) (h0 : -9223372036854775807 ≤ x) (h1 : x ≤ 9223372036854775807) :
    Calls Try.prog 90 #[.int .i64 x] w fun en w9 => en = .returned (.int .i64 (iabs x)) ∧ w = w9 := by
  go_enter Try.func90, Try.ntmps90
  go_wp2
  all_goals (go_ret; exact ⟨by simp [iabs_pos, iabs_neg, *], rfl⟩)
set_option maxHeartbeats 1000000 in
/-- the Go function spec.l01Abs -/
theorem sAbs_any (x : Int) (w : World) (h0 : -9223372036854775807 ≤ x) (h1 : x ≤ 9223372036854775807) :
    Calls Try.prog 87 #[.int .i64 x] w fun en w9 => en = .returned (.int .i64 (iabs x)) ∧ w = w9 := by
  go_enter Try.func87, Try.ntmps87
  go_wp2
  all_goals (go_ret; exact ⟨by simp [iabs_pos, iabs_neg, *], rfl⟩)

theorem len_any (A : Option Addr) (n c : Nat) (w : World) : Calls Try.prog 55 #[.slice A n c] w fun en w9 => en = .returned (.int .i64 n) ∧ w = w9 := by
  go_enter Try.func55, Try.ntmps55
  go_wp2
  go_ret
  exact ⟨rfl, rfl⟩
end Go.Proofs.Ytfmhbphbgdijpaa
