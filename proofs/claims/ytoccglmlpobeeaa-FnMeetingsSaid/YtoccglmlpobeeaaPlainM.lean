/- plain: meetings -/
import Derived.Test.YtoccglmlpobeeaaPlainX
import Derived.Test.YtoccglmlpobeeaaW6
set_option linter.unusedVariables false
set_option linter.unusedSimpArgs false
namespace Go.Proofs.Ytoccglmlpobeeaa
open Go.RowKit

theorem ratA_zero {n d : Int} (h : d ≠ 0) : (ratA n d = 0) ↔ n = 0 := by
  have hp := ratD_pos h
  have g0 := gcdI_pos (n := ratN n d) (d := ratD d) (by omega)
  have e1 : ratA n d * gcdI (ratN n d) (ratD d) = ratN n d := Int.tdiv_mul_cancel (Int.gcd_dvd_left ..)
  have e3 : ratN n d = 0 ↔ n = 0 := by unfold ratN; split <;> omega
  rw [← e3, ← e1]
  constructor
  · intro q; rw [q]; simp
  · intro q; rcases Int.mul_eq_zero.1 q with q | q
    · exact q
    · omega
theorem ratX_zero {n d : Int} (h : d ≠ 0) (hk : ratOk n d = true) : (ratX n d = 0) ↔ n = 0 := by unfold ratX; rw [if_pos hk]; exact ratA_zero h
theorem ratX_nonneg {n d : Int} (h0 : 0 ≤ n) (hd : 0 < d) : 0 ≤ ratX n d := by
  unfold ratX; split
  · unfold ratA ratN; rw [if_neg (by omega)]
    exact Int.tdiv_nonneg h0 (by have := gcdI_pos (n := n) (d := ratD d) (by have := ratD_pos (d := d) (by omega); omega); omega)
  · exact Int.le_refl _
theorem ratY_bd {n d : Int} (hd : 0 < d) (hk : ratOk n d = true) : 0 < ratY n d ∧ ratY n d ≤ d := by
  have hp := ratD_pos (d := d) (by omega)
  have e0 : ratD d = d := by unfold ratD; rw [if_neg (by omega)]
  have g0 := gcdI_pos (n := ratN n d) (d := ratD d) (by omega)
  have e2 : ratB n d * gcdI (ratN n d) (ratD d) = ratD d := Int.tdiv_mul_cancel (Int.gcd_dvd_right ..)
  unfold ratY; rw [if_pos hk]
  rw [e0] at e2 g0
  generalize ratB n d = B at *
  generalize gcdI (ratN n d) d = G at *
  have hB : 0 < B := by
    rcases Int.lt_or_le 0 B with q | q
    · exact q
    · have : B * G ≤ 0 := Int.mul_nonpos_of_nonpos_of_nonneg q (by omega)
      omega
  refine ⟨hB, ?_⟩
  have : B * 1 ≤ B * G := Int.mul_le_mul_of_nonneg_left g0 (by omega)
  omega
theorem csC_ok {a b c d : Int} (h : csC a b c d = 0) : ratOk (csN a b c d) (csD a b c d) = true := ratC_ok (by decide) h
theorem csD_pos {a b c d : Int} (bc : -2000 ≤ c ∧ c ≤ 2000) (bd : -2000 ≤ d ∧ d ≤ 2000) : 0 < csD a b c d ∧ csD a b c d ≤ 8000000 := by
  unfold csD; split
  · decide
  · have := norm_bd bc bd (dot_nz (a := a) (b := b) (by omega)); omega
theorem mt_meets {a b c d : Int} (ba : -200000 ≤ a ∧ a ≤ 200000) (bb : -200000 ≤ b ∧ b ≤ 200000) (bc : -2000 ≤ c ∧ c ≤ 2000) (bd : -2000 ≤ d ∧ d ≤ 2000) (h : csC a b c d = 0) : meets a b c d = (csX a b c d == 0) := by
  have hk := csC_ok h
  have hp := (csD_pos (a := a) (b := b) bc bd).1
  have e : (csX a b c d == 0) = decide (csN a b c d = 0) := by
    unfold csX
    by_cases q : csN a b c d = 0
    · rw [decide_eq_true q, beq_iff_eq]; exact (ratX_zero (by omega) hk).2 q
    · rw [decide_eq_false q, beq_eq_false_iff_ne]; exact fun r => q ((ratX_zero (by omega) hk).1 r)
  rw [e]
  have d1 := (dot_bd ba bb ba bb).1
  have s1 := sq_pos (a := a); have s2 := sq_pos (a := b)
  unfold meets csN
  by_cases t : 0 ≤ dot a b c d
  · rw [if_pos t, decide_eq_false (show ¬ dot a b c d < 0 by omega), Bool.and_false, Bool.or_false, d1]
    by_cases q : a = 0 ∧ b = 0
    · obtain ⟨rfl, rfl⟩ := q; rfl
    · have l : (a == 0 && b == 0) = false := by
        rw [Bool.and_eq_false_iff]; simp only [beq_eq_false_iff_ne]; omega
      rw [l]; symm; rw [decide_eq_false_iff_not]; intro r
      exact q ⟨sq_zero (by omega), sq_zero (by omega)⟩
  · rw [if_neg t, decide_eq_true (show dot a b c d < 0 by omega), Bool.and_true]
    have l : (a == 0 && b == 0) = false := by
      rw [Bool.and_eq_false_iff]; simp only [beq_eq_false_iff_ne]
      by_cases q : a = 0
      · right; intro r; subst q; subst r
        apply t; unfold dot; simp [wrap64]
      · exact .inl q
    rw [l, Bool.false_or]
    by_cases q : cross a b c d = 0
    · rw [q]; rfl
    · have : ¬ cross a b c d * cross a b c d = 0 := fun r => q (by rcases Int.mul_eq_zero.1 r with r | r <;> exact r)
      rw [decide_eq_false this, beq_eq_false_iff_ne]; exact q
theorem mt_time {a b c d : Int} (bc : -2000 ≤ c ∧ c ≤ 2000) (bd : -2000 ≤ d ∧ d ≤ 2000) : 0 ≤ ctX a b c d := by
  unfold ctX; split
  · exact Int.le_refl _
  · rename_i h
    have h2 : ¬ (c = 0 ∧ d = 0) := by
      simp only [isZ, Bool.and_eq_true, beq_iff_eq] at h; exact h
    have := norm_bd bc bd h2
    exact ratX_nonneg (by unfold tmT; omega) (by omega)
/-- no time is closer -/
theorem mt_close {a b c d t x y : Int} (ba : -200000 ≤ a ∧ a ≤ 200000) (bb : -200000 ≤ b ∧ b ≤ 200000) (bc : -2000 ≤ c ∧ c ≤ 2000) (bd : -2000 ≤ d ∧ d ≤ 2000) (ht : 0 ≤ t) (h : csC a b c d = 0) (hx : x = a + t * c) (hy : y = b + t * d) : csX a b c d ≤ (x * x + y * y) * csY a b c d := by
  have hk := csC_ok h
  have hp := (csD_pos (a := a) (b := b) bc bd).1
  have hY := ratY_bd hp hk
  have hc := ratX_cross (by omega) hk
  have key : csN a b c d ≤ (x * x + y * y) * csD a b c d := by
    have d1 := (dot_bd ba bb ba bb).1
    have d2 := (dot_bd ba bb (c := c) (d := d) (by omega) (by omega)).1
    have d3 := (dot_bd (a := c) (b := d) (c := c) (d := d) (by omega) (by omega) (by omega) (by omega)).1
    have d4 := (cross_bd ba bb bc bd).1
    unfold csN csD
    by_cases q : 0 ≤ dot a b c d
    · rw [if_pos q, if_pos q, d1]
      rw [d2] at q
      have e : (x * x + y * y) * 1 = a * a + b * b + 2 * t * (a * c + b * d) + t * t * (c * c + d * d) := by rw [hx, hy]; grind
      have n1 := Int.mul_nonneg (show 0 ≤ 2 * t by omega) q
      have n2 := Int.mul_nonneg (Int.mul_nonneg ht ht) (show 0 ≤ c * c + d * d by have := sq_pos (a := c); have := sq_pos (a := d); omega)
      omega
    · rw [if_neg q, if_neg q, d3, d4]
      have e : (x * x + y * y) * (c * c + d * d) = (a * d - b * c) * (a * d - b * c) + (x * c + y * d) * (x * c + y * d) := by rw [hx, hy]; grind
      have n1 := sq_pos (a := x * c + y * d)
      omega
  unfold csX csY at *
  generalize csN a b c d = N at *
  generalize csD a b c d = D at *
  generalize ratX N D = X at *
  generalize ratY N D = Y at *
  have m := Int.mul_le_mul_of_nonneg_right key (show 0 ≤ Y by omega)
  rw [← hc] at m
  have e : (x * x + y * y) * D * Y = ((x * x + y * y) * Y) * D := by grind
  rw [e] at m
  exact Int.le_of_mul_le_mul_right m hp
theorem mt_bound {a b c d x y : Int} (bc : -2000 ≤ c ∧ c ≤ 2000) (bd : -2000 ≤ d ∧ d ≤ 2000) (h : csC a b c d = 0) (bx : -200000 ≤ x ∧ x ≤ 200000) (by' : -200000 ≤ y ∧ y ≤ 200000) : 0 ≤ (x * x + y * y) * csY a b c d ∧ (x * x + y * y) * csY a b c d ≤ 640000000000000000 := by
  have hk := csC_ok h
  have hp := csD_pos (a := a) (b := b) bc bd
  have hY := ratY_bd hp.1 hk
  have m1 := mulB (m := 200000) (k := 200000) bx bx (by decide) (by decide)
  have m2 := mulB (m := 200000) (k := 200000) by' by' (by decide) (by decide)
  have s1 := sq_pos (a := x); have s2 := sq_pos (a := y)
  have hy : csY a b c d ≤ 8000000 := by unfold csY; omega
  have hy0 : 0 ≤ csY a b c d := by unfold csY; omega
  refine ⟨Int.mul_nonneg (by omega) hy0, ?_⟩
  have := Int.mul_le_mul (show x * x + y * y ≤ 80000000000 by omega) hy hy0 (by decide)
  omega
end Go.Proofs.Ytoccglmlpobeeaa
