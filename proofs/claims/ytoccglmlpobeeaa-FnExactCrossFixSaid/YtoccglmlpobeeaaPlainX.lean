/- plain: what a fix is good for -/
import Derived.Test.YtoccglmlpobeeaaPlainF
set_option linter.unusedVariables false
set_option linter.unusedSimpArgs false
namespace Go.Proofs.Ytoccglmlpobeeaa
open Go.RowKit

theorem ratN_neg {n d : Int} (h : d ≠ 0) : ratN (-n) (-d) = ratN n d := by unfold ratN; split <;> split <;> omega
theorem ratD_neg {d : Int} (h : d ≠ 0) : ratD (-d) = ratD d := by unfold ratD; split <;> split <;> omega
theorem ratA_neg {n d : Int} (h : d ≠ 0) : ratA (-n) (-d) = ratA n d := by unfold ratA; rw [ratN_neg h, ratD_neg h]
theorem ratB_neg {n d : Int} (h : d ≠ 0) : ratB (-n) (-d) = ratB n d := by unfold ratB; rw [ratN_neg h, ratD_neg h]
theorem ratOk_neg {n d : Int} (h : d ≠ 0) : ratOk (-n) (-d) = ratOk n d := by unfold ratOk; rw [ratA_neg h, ratB_neg h]
theorem ratX_neg {n d : Int} (h : d ≠ 0) : ratX (-n) (-d) = ratX n d := by unfold ratX; rw [ratOk_neg h, ratA_neg h]
theorem ratY_neg {n d : Int} (h : d ≠ 0) : ratY (-n) (-d) = ratY n d := by unfold ratY; rw [ratOk_neg h, ratB_neg h]
theorem ratC_neg {n d e : Int} (h : d ≠ 0) : ratC (-n) (-d) e = ratC n d e := by unfold ratC; rw [ratOk_neg h]
theorem ratD_pos {d : Int} (h : d ≠ 0) : 0 < ratD d := by unfold ratD; split <;> omega
theorem ratC_ok {n d e : Int} (he : e ≠ 0) (h : ratC n d e = 0) : ratOk n d = true := by
  unfold ratC at h; split at h
  · assumption
  · exact absurd h he
theorem rat_cross {n d : Int} (h : d ≠ 0) : ratA n d * d = n * ratB n d := by
  have hp := ratD_pos h
  have g0 := gcdI_pos (n := ratN n d) (d := ratD d) (by omega)
  have e1 : ratA n d * gcdI (ratN n d) (ratD d) = ratN n d := Int.tdiv_mul_cancel (Int.gcd_dvd_left ..)
  have e2 : ratB n d * gcdI (ratN n d) (ratD d) = ratD d := Int.tdiv_mul_cancel (Int.gcd_dvd_right ..)
  have e3 : ratN n d * d = n * ratD d := by
    unfold ratN ratD; split
    · grind
    · rfl
  generalize ratA n d = A at *
  generalize ratB n d = B at *
  generalize gcdI (ratN n d) (ratD d) = G at *
  have e4 : A * d * G = n * B * G := by
    have : A * d * G = (A * G) * d := by grind
    rw [this, e1, e3, ← e2]; grind
  exact Int.eq_of_mul_eq_mul_right (by omega) e4
theorem ratX_cross {n d : Int} (h : d ≠ 0) (hk : ratOk n d = true) : ratX n d * d = n * ratY n d := by
  unfold ratX ratY; rw [if_pos hk, if_pos hk]; exact rat_cross h
theorem far_neg (x y : Int) : fxFar (-x) (-y) = fxFar x y := by unfold fxFar; rw [sgn_neg', sgn_neg', Int.neg_mul_neg]
structure FxB (a b c d e f g h : Int) : Prop where
  a : -100000 ≤ a ∧ a ≤ 100000
  b : -100000 ≤ b ∧ b ≤ 100000
  c : -1000 ≤ c ∧ c ≤ 1000
  d : -1000 ≤ d ∧ d ≤ 1000
  e : -100000 ≤ e ∧ e ≤ 100000
  f : -100000 ≤ f ∧ f ≤ 100000
  g : -1000 ≤ g ∧ g ≤ 1000
  h : -1000 ≤ h ∧ h ≤ 1000
theorem fx_bd {a b c d e f g h : Int} (k : fxOk a b c d e f g h = true) : FxB a b c d e f g h := by
  unfold fxOk at k; simp only [Bool.and_eq_true] at k
  have p := isPt_iff.1 k.1.1.1; have q := isBear_bd k.1.1.2; have r := isPt_iff.1 k.1.2; have s := isBear_bd k.2
  exact ⟨p.1, p.2, q.1, q.2, r.1, r.2, s.1, s.2⟩
theorem FxB.swap {a b c d e f g h : Int} (k : FxB a b c d e f g h) : FxB e f g h a b c d := ⟨k.e, k.f, k.g, k.h, k.a, k.b, k.c, k.d⟩
theorem cross_wide {a b c d : Int} (ha : -200000 ≤ a ∧ a ≤ 200000) (hb : -200000 ≤ b ∧ b ≤ 200000) (hc : -1000 ≤ c ∧ c ≤ 1000) (hd : -1000 ≤ d ∧ d ≤ 1000) : cross a b c d = a * d - b * c := by
  have h1 := mulB (m := 200000) (k := 1000) ha hd (by decide) (by decide)
  have h2 := mulB (m := 200000) (k := 1000) hb hc (by decide) (by decide)
  unfold cross
  rw [w64id (a * d) (by omega), w64id (b * c) (by omega), w64id _ (by omega)]
theorem FxB.D {a b c d e f g h : Int} (k : FxB a b c d e f g h) : cross c d g h = c * h - d * g := cross_small k.c k.d ⟨by have := k.g; omega, by have := k.g; omega⟩ ⟨by have := k.h; omega, by have := k.h; omega⟩
theorem FxB.T {a b c d e f g h : Int} (k : FxB a b c d e f g h) : fxT a b e f g h = (e - a) * h - (f - b) * g :=
  cross_wide ⟨by have := k.a; have := k.e; omega, by have := k.a; have := k.e; omega⟩ ⟨by have := k.b; have := k.f; omega, by have := k.b; have := k.f; omega⟩ k.g k.h
theorem FxB.S {a b c d e f g h : Int} (k : FxB a b c d e f g h) : fxT a b e f c d = (e - a) * d - (f - b) * c :=
  cross_wide ⟨by have := k.a; have := k.e; omega, by have := k.a; have := k.e; omega⟩ ⟨by have := k.b; have := k.f; omega, by have := k.b; have := k.f; omega⟩ k.c k.d
theorem fxOk_swap (a b c d e f g h : Int) : fxOk e f g h a b c d = fxOk a b c d e f g h := by
  unfold fxOk
  cases isPt 100000 a b <;> cases isBear c d <;> cases isPt 100000 e f <;> cases isBear g h <;> rfl
theorem fx_pieces {a b c d e f g h : Int} (k : FxB a b c d e f g h) : cross g h c d = -cross c d g h ∧ fxT e f a b c d = -fxT a b e f c d ∧ fxT e f a b g h = -fxT a b e f g h
    ∧ fxN e (cross g h c d) (fxT e f a b c d) g = -fxN a (cross c d g h) (fxT a b e f g h) c ∧ fxN f (cross g h c d) (fxT e f a b c d) h = -fxN b (cross c d g h) (fxT a b e f g h) d := by
  have e1 := k.D; have e2 := k.T; have e3 := k.S; have e4 := k.swap.D; have e5 := k.swap.T; have e6 := k.swap.S
  unfold fxN
  rw [e1, e2, e3, e4, e5, e6]
  refine ⟨?_, ?_, ?_, ?_, ?_⟩ <;> grind
theorem fx_swap {a b c d e f g h : Int} : fxCode e f g h a b c d = fxCode a b c d e f g h ∧ ∀ i, fxR ratX i e f g h a b c d = fxR ratX i a b c d e f g h ∧ fxR ratY i e f g h a b c d = fxR ratY i a b c d e f g h := by
  by_cases hk : fxOk a b c d e f g h = true
  · obtain ⟨p1, p2, p3, p4, p5⟩ := fx_pieces (fx_bd hk)
    by_cases hD : cross c d g h = 0
    · have hc : fxCode a b c d e f g h = 5 := by unfold fxCode; rw [if_pos hk, if_pos hD]
      have hc2 : fxCode e f g h a b c d = 5 := by unfold fxCode; rw [fxOk_swap, if_pos hk, if_pos (by omega)]
      unfold fxR; rw [hc, hc2]; exact ⟨rfl, fun i => ⟨rfl, rfl⟩⟩
    · have hL : fxLim e f g h (cross g h c d) (fxT e f a b c d) = fxLim a b c d (cross c d g h) (fxT a b e f g h) := by
        unfold fxLim; rw [p4, p5, p1, ratC_neg hD, ratC_neg hD]
      have hF : (fxFar (fxT e f a b c d) (cross g h c d) || fxFar (fxT e f a b g h) (cross g h c d)) = (fxFar (fxT a b e f g h) (cross c d g h) || fxFar (fxT a b e f c d) (cross c d g h)) := by
        rw [p1, p2, p3, far_neg, far_neg, Bool.or_comm]
      have hC : fxCode e f g h a b c d = fxCode a b c d e f g h := by
        unfold fxCode; rw [fxOk_swap, hF, hL]
        simp only [if_pos hk, if_neg hD, if_neg (show ¬ cross g h c d = 0 by omega)]
      refine ⟨hC, fun i => ?_⟩
      unfold fxR; rw [hC, p4, p5, p1]
      cases i <;> simp only [Bool.false_eq_true, if_false, if_true, ratX_neg hD, ratY_neg hD, and_self]
  · have hc : fxCode a b c d e f g h = 1 := by unfold fxCode; rw [if_neg hk]
    have hc2 : fxCode e f g h a b c d = 1 := by unfold fxCode; rw [fxOk_swap, if_neg hk]
    unfold fxR; rw [hc, hc2]; exact ⟨rfl, fun i => ⟨rfl, rfl⟩⟩
theorem fx_ok {a b c d e f g h : Int} (k : fxCode a b c d e f g h = 0) : fxOk a b c d e f g h = true ∧ cross c d g h ≠ 0 ∧ ratOk (fxN a (cross c d g h) (fxT a b e f g h) c) (cross c d g h) = true ∧ ratOk (fxN b (cross c d g h) (fxT a b e f g h) d) (cross c d g h) = true := by
  unfold fxCode at k
  split at k
  · split at k
    · cases k
    · split at k
      · cases k
      · split at k
        · cases k
        · rename_i h1 h2 _ h3
          unfold fxLim at h3
          simp only [Bool.or_eq_true, bne_iff_ne, ne_eq, not_or, Decidable.not_not] at h3
          exact ⟨h1, h2, ratC_ok (by decide) h3.1, ratC_ok (by decide) h3.2⟩
  · cases k
/-- a fix lies on both lines -/
theorem fx_lines {a b c d e f g h X x Y y : Int} (k : fxCode a b c d e f g h = 0) (hX : X = fxR ratX false a b c d e f g h) (hx : x = fxR ratY false a b c d e f g h) (hY : Y = fxR ratX true a b c d e f g h) (hy : y = fxR ratY true a b c d e f g h) :
    c * (Y * x - b * x * y) - d * (X * y - a * x * y) = 0 ∧ g * (Y * x - f * x * y) - h * (X * y - e * x * y) = 0 := by
  obtain ⟨h1, hD, k1, k2⟩ := fx_ok k
  have kb := fx_bd h1
  have c1 := ratX_cross hD k1
  have c2 := ratX_cross hD k2
  unfold fxR at hX hx hY hy
  simp only [k, if_true, if_false, Bool.false_eq_true] at hX hx hY hy
  rw [← hX, ← hx] at c1
  rw [← hY, ← hy] at c2
  have e1 := kb.D; have e2 := kb.T
  unfold fxN at c1 c2
  generalize cross c d g h = D at *
  generalize fxT a b e f g h = T at *
  clear hX hx hY hy k1 k2 kb k h1
  have z : ∀ E : Int, D * E = 0 → E = 0 := fun E hE => by
    rcases Int.mul_eq_zero.1 hE with q | q
    · exact absurd q hD
    · exact q
  refine ⟨z _ ?_, z _ ?_⟩
  · have : D * (c * (Y * x - b * x * y) - d * (X * y - a * x * y)) = c * (Y * D * x - b * D * x * y) - d * (X * D * y - a * D * x * y) := by grind
    rw [this, c1, c2]; grind
  · have : D * (g * (Y * x - f * x * y) - h * (X * y - e * x * y)) = g * (Y * D * x - f * D * x * y) - h * (X * D * y - e * D * x * y) := by grind
    rw [this, c1, c2, e1, e2]; grind
end Go.Proofs.Ytoccglmlpobeeaa
