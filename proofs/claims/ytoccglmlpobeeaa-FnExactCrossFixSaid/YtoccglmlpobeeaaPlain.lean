/- plain functions: what the Go functions of these layers compute -/
import Derived.Below
import Derived.IntWalk
set_option linter.unusedVariables false
set_option linter.unusedSimpArgs false
namespace Go.Proofs.Ytoccglmlpobeeaa
open Go.RowKit

def inR (x lo hi : Int) : Bool := decide (lo ≤ x) && decide (x ≤ hi)
def isPt (m x y : Int) : Bool := inR x (-m) m && inR y (-m) m
def isBear (x y : Int) : Bool := isPt 1000 x y && !(x == 0 && y == 0)
def cross (a b c d : Int) : Int := wrap64 (wrap64 (a * d) - wrap64 (b * c))
def dot (a b c d : Int) : Int := wrap64 (wrap64 (a * c) + wrap64 (b * d))
def sgn (x : Int) : Int := max (-1) (min 1 x)
theorem sgn_bd (x : Int) : -1 ≤ sgn x ∧ sgn x ≤ 1 := by unfold sgn; omega
theorem w64 (n : Int) : IntKind.i64.wrap n = wrap64 n := by rw [IntKind.wrap_i64]; unfold wrap64; omega
theorem neg_sgn (x : Int) : wrap64 (-sgn x) = -sgn x := IntWalk.wrap64_in _ (by have := sgn_bd x; omega)
theorem wr1 : wrap64 1 = 1 := IntWalk.wrap64_in _ (by omega)
theorem wrm1 : wrap64 (-1) = -1 := IntWalk.wrap64_in _ (by omega)
theorem wr_add_l (a b : Int) : wrap64 (wrap64 a + b) = wrap64 (a + b) := by unfold wrap64; omega
theorem wr_add_r (a b : Int) : wrap64 (a + wrap64 b) = wrap64 (a + b) := by unfold wrap64; omega
theorem wr_sub_l (a b : Int) : wrap64 (wrap64 a - b) = wrap64 (a - b) := by unfold wrap64; omega
theorem wr_sub_r (a b : Int) : wrap64 (a - wrap64 b) = wrap64 (a - b) := by unfold wrap64; omega
theorem wr_wr (a : Int) : wrap64 (wrap64 a) = wrap64 a := by unfold wrap64; omega
theorem wr_form (a : Int) : ∃ k : Int, wrap64 a = a - 18446744073709551616 * k := ⟨(a + 9223372036854775808) / 18446744073709551616, by unfold wrap64; omega⟩
theorem wr_mul_l (a b : Int) : wrap64 (wrap64 a * b) = wrap64 (a * b) := by
  obtain ⟨k, hk⟩ := wr_form a
  rw [hk, Int.sub_mul, Int.mul_assoc]
  unfold wrap64; omega
theorem wr_mul_r (a b : Int) : wrap64 (a * wrap64 b) = wrap64 (a * b) := by rw [Int.mul_comm, wr_mul_l, Int.mul_comm]
theorem wr_sq (a b : Int) : wrap64 (wrap64 a * wrap64 a + wrap64 b * wrap64 b) = wrap64 (a * a + b * b) := by
  rw [← wr_add_l, ← wr_add_r, wr_mul_l, wr_mul_r, wr_mul_l, wr_mul_r, wr_add_l, wr_add_r]
def west (x y : Int) : Bool := decide (x < 0) || (x == 0 && decide (y < 0))
def half (x y : Int) : Int := if decide (0 < x) || (x == 0 && decide (0 < y)) then 0 else 1
theorem half_west (x y : Int) (h : isBear x y = true) (hw : west x y = true) : half x y = 1 := by
  simp only [west, Bool.or_eq_true, decide_eq_true_eq, Bool.and_eq_true, beq_iff_eq] at hw
  unfold half
  rw [if_neg]
  simp only [Bool.or_eq_true, decide_eq_true_eq, Bool.and_eq_true, beq_iff_eq]
  omega
theorem half_east (x y : Int) (h : isBear x y = true) (hw : west x y = false) : half x y = 0 := by
  simp only [west, Bool.or_eq_false_iff, decide_eq_false_iff_not, Bool.and_eq_false_iff, beq_eq_false_iff_ne] at hw
  simp only [isBear, Bool.and_eq_true, Bool.not_eq_true', Bool.and_eq_false_iff, beq_eq_false_iff_ne] at h
  unfold half
  rw [if_pos]
  simp only [Bool.or_eq_true, decide_eq_true_eq, Bool.and_eq_true, beq_iff_eq]
  omega
def cmpOk (a b c d : Int) : Bool := isBear a b && isBear c d
def cmpVal (a b c d : Int) : Int := if cmpOk a b c d then (if west a b == west c d then sgn (cross a b c d) else if west c d then -1 else 1) else 0
def cmpCode (a b c d : Int) : Int := if cmpOk a b c d then 0 else 1
def isMot (x y vx vy s : Int) : Bool := isPt 100000 x y && inR vx (-1000) 1000 && inR vy (-1000) 1000 && inR s 0 10000
def cost (mx my cx cy : Int) : Int := wrap64 ((cx - mx) * (cx - mx) + (cy - my) * (cy - my))
theorem sq_flip (a b : Int) : (a - b) * (a - b) = (b - a) * (b - a) := by rw [← Int.neg_mul_neg, Int.neg_sub]
theorem cost_flip (mx my cx cy : Int) : cost mx my cx cy = wrap64 ((mx - cx) * (mx - cx) + (my - cy) * (my - cy)) := by unfold cost; rw [sq_flip cx, sq_flip cy]
def gateOk (x y vx vy s cx cy : Int) : Bool := isMot x y vx vy s && isPt 100000 cx cy
def gateCost (x y vx vy s cx cy : Int) : Int := if gateOk x y vx vy s cx cy then cost x y cx cy else 0
def gateCode (x y vx vy s cx cy : Int) : Int := if gateOk x y vx vy s cx cy then 0 else 1
def hasIn (x y s cx cy : Int) : Bool := decide (cost x y cx cy ≤ wrap64 (s * s))
def gateIn (x y vx vy s cx cy : Int) : Bool := gateOk x y vx vy s cx cy && hasIn x y s cx cy
def meetOk (a b c d e p q r t u : Int) : Bool := isMot a b c d e && isMot p q r t u
def meetIn (a b c d e p q r t u : Int) : Bool := meetOk a b c d e p q r t u && decide (cost a b p q ≤ wrap64 ((e + u) * (e + u)))
def meetCode (a b c d e p q r t u : Int) : Int := if meetOk a b c d e p q r t u then 0 else 1
def sideOk (a b c d e f : Int) : Bool := isPt 100000 a b && isBear c d && isPt 100000 e f
def sideVal (a b c d e f : Int) : Int := if sideOk a b c d e f then - sgn (cross c d (wrap64 (e - a)) (wrap64 (f - b))) else 0
def sideCode (a b c d e f : Int) : Int := if sideOk a b c d e f then 0 else 1
end Go.Proofs.Ytoccglmlpobeeaa
