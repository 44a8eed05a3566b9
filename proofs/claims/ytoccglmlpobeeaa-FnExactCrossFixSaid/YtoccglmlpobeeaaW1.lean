/- walks: numbers, points, bearings -/
import Derived.Test.YtoccglmlpobeeaaProg
import Derived.Test.YtoccglmlpobeeaaPlain
import Derived.Test.YtoccglmlpobeeaaBase
import Derived.WalkKit
import Derived.WalkSpells
import Derived.WalkLawsBesides
import Derived.Handy
import Derived.Deep.RegionHeld3
set_option linter.unusedVariables false
set_option linter.unusedSimpArgs false
namespace Go.Proofs.Ytoccglmlpobeeaa
open Go.RowKit
set_option maxHeartbeats 1000000 in
/-- the Go function impl.within -/
theorem within_any (x lo hi : Int) (w : World) :
    Calls Try.prog 76 #[.int .i64 x, .int .i64 lo, .int .i64 hi] w fun en w9 => en = .returned (.bool (inR x lo hi)) ∧ w = w9 := by
  go_enter Try.func76, Try.ntmps76
  go_wp2
  all_goals (go_ret; exact ⟨by simp [inR, *] <;> omega, rfl⟩)
set_option maxHeartbeats 1000000 in
/-- the Go function spec.l01In -/
theorem l01In_any (x lo hi : Int) (w : World) :
    Calls Try.prog 74 #[.int .i64 x, .int .i64 lo, .int .i64 hi] w fun en w9 => en = .returned (.bool (inR x lo hi)) ∧ w = w9 := by
  go_enter Try.func74, Try.ntmps74
  go_wp2
  all_goals (go_ret; exact ⟨by simp [inR, *] <;> omega, rfl⟩)
set_option maxHeartbeats 1000000 in
/-- the Go function impl.isPoint -/
theorem isPoint_any (x y : Int) (w : World) :
    Calls Try.prog 84 #[.agg #[.int .i64 x, .int .i64 y]] w fun en w9 => en = .returned (.bool (isPt 100000 x y)) ∧ Below w.heap.size w w9 := by
  go_enter Try.func84, Try.ntmps84
  go_wp2_with (first | (go_at_call 76; refine (within_any _ _ _ _).mono ?_; rintro en w1 ⟨rfl, rfl⟩))
  all_goals (go_ret; exact ⟨by simp [isPt, *], by go_grown⟩)
set_option maxHeartbeats 1000000 in
/-- the Go function impl.isStep -/
theorem isStep_any (x y : Int) (w : World) :
    Calls Try.prog 72 #[.agg #[.int .i64 x, .int .i64 y]] w fun en w9 => en = .returned (.bool (isPt 1000 x y)) ∧ Below w.heap.size w w9 := by
  go_enter Try.func72, Try.ntmps72
  go_wp2_with (first | (go_at_call 76; refine (within_any _ _ _ _).mono ?_; rintro en w1 ⟨rfl, rfl⟩))
  all_goals (go_ret; exact ⟨by simp [isPt, *], by go_grown⟩)
set_option maxHeartbeats 1000000 in
/-- the Go function spec.l12Point -/
theorem l12Point_any (x y m : Int) (w : World) (hm : -1000000 ≤ m ∧ m ≤ 1000000) :
    Calls Try.prog 71 #[.agg #[.int .i64 x, .int .i64 y], .int .i64 m] w fun en w9 => en = .returned (.bool (isPt m x y)) ∧ Below w.heap.size w w9 := by
  go_enter Try.func71, Try.ntmps71
  go_wp2_with (first | (go_at_call 74; refine (l01In_any _ _ _ _).mono ?_; rintro en w1 ⟨rfl, rfl⟩))
  all_goals (go_ret; exact ⟨by simp [isPt, *], by go_grown⟩)
set_option maxHeartbeats 1000000 in
/-- the Go function impl.IsBearing -/
theorem iBearing_any (x y : Int) (w : World) :
    Calls Try.prog 24 #[.agg #[.int .i64 x, .int .i64 y]] w fun en w9 => en = .returned (.bool (isBear x y)) ∧ Below w.heap.size w w9 := by
  go_enter Try.func24, Try.ntmps24
  go_wp2_with (first | (go_at_call 72; refine (isStep_any _ _ _).mono ?_; rintro en w1 ⟨rfl, hb⟩; (first | ((with_reducible replace hS := keep_2_0 hb hS); clear hb) | (replace hS := keep_2_0 (Below.trans (by (go_grown; done)) (hb.mono (by (go_size; done)))) hS; clear hb) | ((with_reducible replace hS := keep_2_0 (Below.trans (Below.drew (Below.refl _ _)) hb) hS); clear hb) | (have hS : w1.cell? ⟨w.heap.size, 0, none⟩ = some (.int .i64 x) ∧ w1.cell? ⟨w.heap.size, 1, none⟩ = some (.int .i64 y) ∧ w.heap.size + 1 ≤ w1.heap.size ∧ Below w.heap.size w w1 := keep_2_0 hb ⟨by (simp [go_sem]; done), by (simp [go_sem]; done), by first | (simp; done) | (simp <;> omega), by (go_grown; done)⟩; clear hb))))
  all_goals (go_ret; exact ⟨by by_cases hx : x = 0 <;> by_cases hy : y = 0 <;> simp_all [isBear], by first | exact hS.2.2.2 | go_grown⟩)
set_option maxHeartbeats 1000000 in
/-- the Go function spec.IsBearing -/
theorem sBearing_any (x y : Int) (w : World) :
    Calls Try.prog 22 #[.agg #[.int .i64 x, .int .i64 y]] w fun en w9 => en = .returned (.bool (isBear x y)) ∧ Below w.heap.size w w9 := by
  go_enter Try.func22, Try.ntmps22
  go_wp2_with (first | (go_at_call 71; refine (l12Point_any _ _ _ _ (by omega)).mono ?_; rintro en w1 ⟨rfl, hb⟩; (first | ((with_reducible replace hS := keep_2_0 hb hS); clear hb) | (replace hS := keep_2_0 (Below.trans (by (go_grown; done)) (hb.mono (by (go_size; done)))) hS; clear hb) | ((with_reducible replace hS := keep_2_0 (Below.trans (Below.drew (Below.refl _ _)) hb) hS); clear hb) | (have hS : w1.cell? ⟨w.heap.size, 0, none⟩ = some (.int .i64 x) ∧ w1.cell? ⟨w.heap.size, 1, none⟩ = some (.int .i64 y) ∧ w.heap.size + 1 ≤ w1.heap.size ∧ Below w.heap.size w w1 := keep_2_0 hb ⟨by (simp [go_sem]; done), by (simp [go_sem]; done), by first | (simp; done) | (simp <;> omega), by (go_grown; done)⟩; clear hb))))
  all_goals (go_ret; exact ⟨by by_cases hx : x = 0 <;> by_cases hy : y = 0 <;> simp_all [isBear], by first | exact hS.2.2.2 | go_grown⟩)
set_option maxHeartbeats 1000000 in
/-- the Go function (impl.Point).cross -/
theorem iCross_any (a b c d : Int) (w : World) :
    Calls Try.prog 86 #[.agg #[.int .i64 a, .int .i64 b], .agg #[.int .i64 c, .int .i64 d]] w fun en w9 => en = .returned (.int .i64 (cross a b c d)) ∧ Below w.heap.size w w9 := by
  go_enter Try.func86, Try.ntmps86
  go_wp2
  go_ret
  exact ⟨by simp [cross], by go_grown⟩
set_option maxHeartbeats 1000000 in
/-- the Go function spec.l12Cross -/
theorem sCross_any (a b c d : Int) (w : World) :
    Calls Try.prog 82 #[.agg #[.int .i64 a, .int .i64 b], .agg #[.int .i64 c, .int .i64 d]] w fun en w9 => en = .returned (.int .i64 (cross a b c d)) ∧ Below w.heap.size w w9 := by
  go_enter Try.func82, Try.ntmps82
  go_wp2
  go_ret
  exact ⟨by simp [cross], by go_grown⟩
set_option maxHeartbeats 1000000 in
/-- the Go function (impl.Point).dot -/
theorem iDot_any (a b c d : Int) (w : World) :
    Calls Try.prog 95 #[.agg #[.int .i64 a, .int .i64 b], .agg #[.int .i64 c, .int .i64 d]] w fun en w9 => en = .returned (.int .i64 (dot a b c d)) ∧ Below w.heap.size w w9 := by
  go_enter Try.func95, Try.ntmps95
  go_wp2
  go_ret
  exact ⟨by simp [dot], by go_grown⟩
set_option maxHeartbeats 1000000 in
/-- the Go function spec.l12Dot -/
theorem sDot_any (a b c d : Int) (w : World) :
    Calls Try.prog 93 #[.agg #[.int .i64 a, .int .i64 b], .agg #[.int .i64 c, .int .i64 d]] w fun en w9 => en = .returned (.int .i64 (dot a b c d)) ∧ Below w.heap.size w w9 := by
  go_enter Try.func93, Try.ntmps93
  go_wp2
  go_ret
  exact ⟨by simp [dot], by go_grown⟩
set_option maxHeartbeats 1000000 in
/-- the Go function (impl.Point).minus -/
theorem iMinus_any (a b c d : Int) (w : World) :
    Calls Try.prog 87 #[.agg #[.int .i64 a, .int .i64 b], .agg #[.int .i64 c, .int .i64 d]] w fun en w9 => en = .returned (.agg #[.int .i64 (wrap64 (a - c)), .int .i64 (wrap64 (b - d))]) ∧ Below w.heap.size w w9 := by
  go_enter Try.func87, Try.ntmps87
  go_wp2
  go_returns
  exact ⟨by simp, by go_grown⟩
set_option maxHeartbeats 1000000 in
/-- the Go function spec.l12Less -/
theorem sLess_any (a b c d : Int) (w : World) :
    Calls Try.prog 83 #[.agg #[.int .i64 a, .int .i64 b], .agg #[.int .i64 c, .int .i64 d]] w fun en w9 => en = .returned (.agg #[.int .i64 (wrap64 (a - c)), .int .i64 (wrap64 (b - d))]) ∧ Below w.heap.size w w9 := by
  go_enter Try.func83, Try.ntmps83
  go_wp2
  go_returns
  exact ⟨by simp, by go_grown⟩
set_option maxHeartbeats 1000000 in
/-- the Go function impl.sign -/
theorem iSign_any (a : Int) (w : World) :
    Calls Try.prog 85 #[.int .i64 a] w fun en w9 => en = .returned (.int .i64 (sgn a)) ∧ w = w9 := by
  go_enter Try.func85, Try.ntmps85
  go_wp2
  all_goals (go_ret; exact ⟨by simp [sgn] <;> omega, rfl⟩)
set_option maxHeartbeats 1000000 in
/-- the Go function spec.l12Sign -/
theorem sSign_any (a : Int) (w : World) :
    Calls Try.prog 81 #[.int .i64 a] w fun en w9 => en = .returned (.int .i64 (sgn a)) ∧ w = w9 := by
  go_enter Try.func81, Try.ntmps81
  go_wp2
  all_goals (go_ret; exact ⟨by simp [sgn] <;> omega, rfl⟩)
set_option maxHeartbeats 1000000 in
/-- the Go function laws.toPoint -/
theorem toPoint_any (x y : Int) (w : World) :
    Calls Try.prog 23 #[.agg #[.int .i64 x, .int .i64 y]] w fun en w9 => en = .returned (.agg #[.int .i64 x, .int .i64 y]) ∧ Below w.heap.size w w9 := by
  go_enter Try.func23, Try.ntmps23
  go_wp2
  go_returns
  exact ⟨rfl, by go_grown⟩
end Go.Proofs.Ytoccglmlpobeeaa
