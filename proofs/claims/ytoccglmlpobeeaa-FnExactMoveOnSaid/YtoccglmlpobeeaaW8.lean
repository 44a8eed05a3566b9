/- walks: MoveOn -/
import Derived.Test.YtoccglmlpobeeaaW3
import Derived.Test.YtoccglmlpobeeaaPlain3
import Derived.Test.YtoccglmlpobeeaaW5
import Derived.Lib.Hide
set_option linter.unusedVariables false
set_option linter.unusedSimpArgs false
namespace Go.Proofs.Ytoccglmlpobeeaa
open Go.RowKit

def mvS (s k : Int) : Int := min (s + k * 50) 10000
def mvIn (x y vx vy k : Int) : Bool := isPt 100000 (x + k * vx) (y + k * vy)
def mvOk (x y vx vy s k : Int) : Bool := isMot x y vx vy s && inR k 0 100 && mvIn x y vx vy k
def mvV (x y vx vy s k z : Int) : Int := if mvOk x y vx vy s k then z else 0
def mvCode (x y vx vy s k : Int) : Int := if isMot x y vx vy s then (if inR k 0 100 then (if mvIn x y vx vy k then 0 else 5) else 2) else 1
theorem isMot_bd {x y vx vy s : Int} (h : isMot x y vx vy s = true) : -100000 ≤ x ∧ x ≤ 100000 ∧ -100000 ≤ y ∧ y ≤ 100000 ∧ -1000 ≤ vx ∧ vx ≤ 1000 ∧ -1000 ≤ vy ∧ vy ≤ 1000 ∧ 0 ≤ s ∧ s ≤ 10000 := by
  simp only [isMot, isPt, inR, Bool.and_eq_true, decide_eq_true_eq] at h; omega
theorem mv_mot {x y vx vy s k : Int} (h : isMot x y vx vy s = true) (hk : inR k 0 100 = true) : isMot (x + k * vx) (y + k * vy) vx vy (mvS s k) = mvIn x y vx vy k := by
  have hb := isMot_bd h
  have hk2 := inR_iff.1 hk
  have e1 : inR vx (-1000) 1000 = true := inR_iff.2 (by omega)
  have e2 : inR vy (-1000) 1000 = true := inR_iff.2 (by omega)
  have e3 : inR (mvS s k) 0 10000 = true := inR_iff.2 (by unfold mvS; omega)
  unfold isMot mvIn
  rw [e1, e2, e3]; simp
theorem mvS_lo {s k : Int} (h : s + k * 50 ≤ 10000) : mvS s k = s + k * 50 := by unfold mvS; omega
theorem mvS_ge {s k : Int} (h : 10000 ≤ s + k * 50) : mvS s k = 10000 := by unfold mvS; omega
theorem mvS_hi {s k : Int} (h : 10000 < s + k * 50) : mvS s k = 10000 := by unfold mvS; omega

set_option maxHeartbeats 4000000 in
theorem sMove_any (x y vx vy s k : Int) (w : World) (hok : isMot x y vx vy s = true) (k0 : 0 ≤ k) (k1 : k ≤ 100) :
    Calls Try.prog 97 #[.agg #[.int .i64 x, .int .i64 y, .int .i64 vx, .int .i64 vy, .int .i64 s], .int .i64 k] w fun en w9 => en = .returned (.agg #[.int .i64 (x + k * vx), .int .i64 (y + k * vy), .int .i64 vx, .int .i64 vy, .int .i64 (mvS s k)]) ∧ Below w.heap.size w w9 := by
  have hb := isMot_bd hok
  have m1 := mul_bd (a := k) (b := vx) (A := 100) (B := 1000) (by omega) (by omega)
  have m2 := mul_bd (a := k) (b := vy) (A := 100) (B := 1000) (by omega) (by omega)
  clear hok
  rcases Int.lt_or_le (s + k * 50) 10000 with h | h
  all_goals (first | have HM := Lib.hid (mvS_ge h) | have HM := Lib.hid (mvS_lo (Int.le_of_lt h)))
  all_goals (go_enter Try.func97, Try.ntmps97)
  all_goals go_wp2
  all_goals go_returns
  all_goals exact ⟨by rw [HM.out], by go_grown⟩
set_option maxHeartbeats 8000000 in
theorem iMove_any (x y vx vy s k : Int) (w : World) (hok : isMot x y vx vy s = true) (k0 : 0 ≤ k) (k1 : k ≤ 100) :
    Calls Try.prog 98 #[.agg #[.int .i64 x, .int .i64 y, .int .i64 vx, .int .i64 vy, .int .i64 s], .int .i64 k] w fun en w9 => en = .returned (.tuple #[.agg #[.int .i64 (x + k * vx), .int .i64 (y + k * vy), .int .i64 vx, .int .i64 vy, .int .i64 (mvS s k)], .bool (mvIn x y vx vy k)]) ∧ Below w.heap.size w w9 := by
  have hb := isMot_bd hok
  have m1 := mul_bd (a := k) (b := vx) (A := 100) (B := 1000) (by omega) (by omega)
  have m2 := mul_bd (a := k) (b := vy) (A := 100) (B := 1000) (by omega) (by omega)
  clear hok
  have HI : Hid (mvIn x y vx vy k = (inR (x + k * vx) (-100000) 100000 && inR (y + k * vy) (-100000) 100000)) := rfl
  rcases Bool.eq_false_or_eq_true (inR (x + k * vx) (-100000) 100000) with h1 | h1 <;> rcases Int.lt_or_le 10000 (s + k * 50) with h | h
  · have HM := Lib.hid (mvS_hi h)
    go_enter Try.func98, Try.ntmps98
    go_wp2
    first | (go_region_with (first | (go_at_call 75; refine (isReach_any _ _).mono ?_; rintro en w1 ⟨rfl, rfl⟩; (try rw [h1])))) | fail
    all_goals go_wp2
    all_goals refine bodyPost_ret (v := .tuple #[.agg #[.int .i64 (x + k * vx), .int .i64 (y + k * vy), .int .i64 vx, .int .i64 vy, .int .i64 (mvS s k)], .bool (mvIn x y vx vy k)]) (by rw [HM.out, HI.out, h1]; simp [results, Try.results98, go_sem]) rfl ⟨rfl, by go_grown⟩
  · have HM := Lib.hid (mvS_lo h)
    go_enter Try.func98, Try.ntmps98
    go_wp2
    first | (go_region_with (first | (go_at_call 75; refine (isReach_any _ _).mono ?_; rintro en w1 ⟨rfl, rfl⟩; (try rw [h1])))) | fail
    all_goals go_wp2
    all_goals refine bodyPost_ret (v := .tuple #[.agg #[.int .i64 (x + k * vx), .int .i64 (y + k * vy), .int .i64 vx, .int .i64 vy, .int .i64 (mvS s k)], .bool (mvIn x y vx vy k)]) (by rw [HM.out, HI.out, h1]; simp [results, Try.results98, go_sem]) rfl ⟨rfl, by go_grown⟩
  · have HM := Lib.hid (mvS_hi h)
    go_enter Try.func98, Try.ntmps98
    go_wp2
    first | (go_region_with (first | (go_at_call 75; refine (isReach_any _ _).mono ?_; rintro en w1 ⟨rfl, rfl⟩; (try rw [h1])))) | fail
    all_goals go_wp2
    all_goals refine bodyPost_ret (v := .tuple #[.agg #[.int .i64 (x + k * vx), .int .i64 (y + k * vy), .int .i64 vx, .int .i64 vy, .int .i64 (mvS s k)], .bool (mvIn x y vx vy k)]) (by rw [HM.out, HI.out, h1]; simp [results, Try.results98, go_sem]) rfl ⟨rfl, by go_grown⟩
  · have HM := Lib.hid (mvS_lo h)
    go_enter Try.func98, Try.ntmps98
    go_wp2
    first | (go_region_with (first | (go_at_call 75; refine (isReach_any _ _).mono ?_; rintro en w1 ⟨rfl, rfl⟩; (try rw [h1])))) | fail
    all_goals go_wp2
    all_goals refine bodyPost_ret (v := .tuple #[.agg #[.int .i64 (x + k * vx), .int .i64 (y + k * vy), .int .i64 vx, .int .i64 vy, .int .i64 (mvS s k)], .bool (mvIn x y vx vy k)]) (by rw [HM.out, HI.out, h1]; simp [results, Try.results98, go_sem]) rfl ⟨rfl, by go_grown⟩
end Go.Proofs.Ytoccglmlpobeeaa
