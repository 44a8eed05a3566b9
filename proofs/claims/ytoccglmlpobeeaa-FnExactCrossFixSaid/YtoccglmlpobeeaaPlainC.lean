/- plain functions: the closest time and square -/
import Derived.Test.YtoccglmlpobeeaaPlainR
import Derived.Test.YtoccglmlpobeeaaW6
set_option linter.unusedVariables false
set_option linter.unusedSimpArgs false
namespace Go.Proofs.Ytoccglmlpobeeaa
open Go.RowKit

theorem dot_bd {a b c d : Int} (ha : -200000 ≤ a ∧ a ≤ 200000) (hb : -200000 ≤ b ∧ b ≤ 200000) (hc : -200000 ≤ c ∧ c ≤ 200000) (hd : -200000 ≤ d ∧ d ≤ 200000) : dot a b c d = a * c + b * d ∧ -80000000000 ≤ dot a b c d ∧ dot a b c d ≤ 80000000000 := by
  have h1 := mul_bd (a := a) (b := c) ha hc
  have h2 := mul_bd (a := b) (b := d) hb hd
  have h3 := dot_eq (a := a) (b := b) (c := c) (d := d) (by omega) (by omega) (by omega) (by omega)
  exact ⟨h3, by omega, by omega⟩
theorem cross_bd {a b c d : Int} (ha : -200000 ≤ a ∧ a ≤ 200000) (hb : -200000 ≤ b ∧ b ≤ 200000) (hc : -2000 ≤ c ∧ c ≤ 2000) (hd : -2000 ≤ d ∧ d ≤ 2000) : cross a b c d = a * d - b * c ∧ -800000000 ≤ cross a b c d ∧ cross a b c d ≤ 800000000 := by
  have h1 := mul_bd (a := a) (b := d) ha hd
  have h2 := mul_bd (a := b) (b := c) hb hc
  have h3 := cross_eq (a := a) (b := b) (c := c) (d := d) (by omega) (by omega) (by omega) (by omega)
  exact ⟨h3, by omega, by omega⟩
theorem sq_pos {a : Int} : 0 ≤ a * a := by
  rcases Int.lt_or_le a 0 with h | h
  · rw [← Int.neg_mul_neg]; exact Int.mul_nonneg (by omega) (by omega)
  · exact Int.mul_nonneg h h
theorem sq_zero {a : Int} (h : a * a ≤ 0) : a = 0 := by
  rcases Int.mul_eq_zero.1 (show a * a = 0 by have := sq_pos (a := a); omega) with h | h <;> exact h
theorem norm_bd {c d : Int} (hc : -2000 ≤ c ∧ c ≤ 2000) (hd : -2000 ≤ d ∧ d ≤ 2000) (h : ¬ (c = 0 ∧ d = 0)) : 1 ≤ dot c d c d ∧ dot c d c d ≤ 8000000 := by
  have h1 := mul_bd (a := c) (b := c) hc hc
  have h2 := mul_bd (a := d) (b := d) hd hd
  have h3 := dot_eq (a := c) (b := d) (c := c) (d := d) (by omega) (by omega) (by omega) (by omega)
  have h4 := sq_pos (a := c)
  have h5 := sq_pos (a := d)
  refine ⟨?_, by omega⟩
  rcases Int.lt_or_le 0 (dot c d c d) with h6 | h6
  · omega
  · exact absurd ⟨sq_zero (a := c) (by omega), sq_zero (a := d) (by omega)⟩ h
def isZ (c d : Int) : Bool := c == 0 && d == 0
def tmT (a b c d : Int) : Int := max (-(dot a b c d)) 0
def ctX (a b c d : Int) : Int := if isZ c d then 0 else ratX (tmT a b c d) (dot c d c d)
def ctY (a b c d : Int) : Int := if isZ c d then 0 else ratY (tmT a b c d) (dot c d c d)
def ctC (a b c d : Int) : Int := if isZ c d then 5 else ratC (tmT a b c d) (dot c d c d) 3
def csN (a b c d : Int) : Int := if 0 ≤ dot a b c d then dot a b a b else cross a b c d * cross a b c d
def csD (a b c d : Int) : Int := if 0 ≤ dot a b c d then 1 else dot c d c d
def csX (a b c d : Int) : Int := ratX (csN a b c d) (csD a b c d)
def csY (a b c d : Int) : Int := ratY (csN a b c d) (csD a b c d)
def csC (a b c d : Int) : Int := ratC (csN a b c d) (csD a b c d) 3
def onTr (f : Int → Int → Int → Int → Int) (e : Int) (p q r s t u v z : Int) : Int := if trk2 p q r s t u v z then f (t - p) (u - q) (v - r) (z - s) else e
theorem tmT_pos {a b c d : Int} (h : 0 ≤ dot a b c d) : tmT a b c d = 0 := by unfold tmT; omega
theorem tmT_neg {a b c d : Int} (h : dot a b c d < 0) : tmT a b c d = -dot a b c d := by unfold tmT; omega
theorem dot_nz {a b c d : Int} (h : dot a b c d < 0) : ¬ (c = 0 ∧ d = 0) := fun ⟨h1, h2⟩ => by subst h1; subst h2; rw [dot_zero] at h; omega
end Go.Proofs.Ytoccglmlpobeeaa
