/- plain: the cases of a fix -/
import Derived.Test.YtoccglmlpobeeaaPlainX
set_option linter.unusedVariables false
set_option linter.unusedSimpArgs false
namespace Go.Proofs.Ytoccglmlpobeeaa
open Go.RowKit

theorem fxOk_yes {a b c d e f g h : Int} (k : fxOk a b c d e f g h = true) : isPt 100000 a b = true ∧ isBear c d = true ∧ isPt 100000 e f = true ∧ isBear g h = true := by
  unfold fxOk at k; simp only [Bool.and_eq_true] at k; exact ⟨k.1.1.1, k.1.1.2, k.1.2, k.2⟩
theorem fxOk_no {a b c d e f g h : Int} (k : fxOk a b c d e f g h = false) : isPt 100000 a b = false ∨ (isPt 100000 a b = true ∧ isBear c d = false) ∨ (isPt 100000 a b = true ∧ isBear c d = true ∧ isPt 100000 e f = false) ∨ (isPt 100000 a b = true ∧ isBear c d = true ∧ isPt 100000 e f = true ∧ isBear g h = false) := by
  unfold fxOk at k
  cases h1 : isPt 100000 a b <;> cases h2 : isBear c d <;> cases h3 : isPt 100000 e f <;> cases h4 : isBear g h <;> simp_all
theorem fx_big {a b c d e f g h : Int} (k : fxOk a b c d e f g h = true) : (-2000000 ≤ cross c d g h ∧ cross c d g h ≤ 2000000) ∧ (-400000000 ≤ fxT a b e f g h ∧ fxT a b e f g h ≤ 400000000) ∧
    (-200000000000 ≤ a * cross c d g h ∧ a * cross c d g h ≤ 200000000000) ∧ (-200000000000 ≤ b * cross c d g h ∧ b * cross c d g h ≤ 200000000000) ∧
    (-400000000000 ≤ fxT a b e f g h * c ∧ fxT a b e f g h * c ≤ 400000000000) ∧ (-400000000000 ≤ fxT a b e f g h * d ∧ fxT a b e f g h * d ≤ 400000000000) ∧
    wrap64 (e - a) = e - a ∧ wrap64 (f - b) = f - b := by
  have kb := fx_bd k
  have e1 := kb.D; have e2 := kb.T
  have ba := kb.a; have bb := kb.b; have be := kb.e; have bf := kb.f
  have m1 := mulB (m := 1000) (k := 1000) kb.c kb.h (by decide) (by decide)
  have m2 := mulB (m := 1000) (k := 1000) kb.d kb.g (by decide) (by decide)
  have m3 := mulB (a := e - a) (m := 200000) (k := 1000) (by omega) kb.h (by decide) (by decide)
  have m4 := mulB (a := f - b) (m := 200000) (k := 1000) (by omega) kb.g (by decide) (by decide)
  have hD : -2000000 ≤ cross c d g h ∧ cross c d g h ≤ 2000000 := by omega
  have hT : -400000000 ≤ fxT a b e f g h ∧ fxT a b e f g h ≤ 400000000 := by omega
  have m5 := mulB (m := 100000) (k := 2000000) ba hD (by decide) (by decide)
  have m6 := mulB (m := 100000) (k := 2000000) bb hD (by decide) (by decide)
  have m7 := mulB (m := 400000000) (k := 1000) hT kb.c (by decide) (by decide)
  have m8 := mulB (m := 400000000) (k := 1000) hT kb.d (by decide) (by decide)
  exact ⟨hD, hT, m5, m6, m7, m8, w64id _ (by omega), w64id _ (by omega)⟩
theorem sgn2 (x y : Int) : -1 ≤ sgn x * sgn y ∧ sgn x * sgn y ≤ 1 := mulB (m := 1) (k := 1) (sgn_rng x) (sgn_rng y) (by decide) (by decide)
theorem fx_zero {a b c d e f g h : Int} (k : fxOk a b c d e f g h = true) (hD : cross c d g h = 0) : fxCode a b c d e f g h = 5 := by unfold fxCode; rw [if_pos k, if_pos hD]
theorem fx_far {a b c d e f g h : Int} (k : fxOk a b c d e f g h = true) (hD : cross c d g h ≠ 0) (h1 : sgn (fxT a b e f g h) * sgn (cross c d g h) < 0 ∨ sgn (fxT a b e f c d) * sgn (cross c d g h) < 0) : fxCode a b c d e f g h = 4 := by
  unfold fxCode; rw [if_pos k, if_neg hD, if_pos (by unfold fxFar; simpa using h1)]
theorem fx_near {a b c d e f g h : Int} (k : fxOk a b c d e f g h = true) (hD : cross c d g h ≠ 0) (h1 : ¬ sgn (fxT a b e f g h) * sgn (cross c d g h) < 0) (h2 : ¬ sgn (fxT a b e f c d) * sgn (cross c d g h) < 0) :
    fxCode a b c d e f g h = if fxLim a b c d (cross c d g h) (fxT a b e f g h) then 3 else 0 := by
  unfold fxCode; rw [if_pos k, if_neg hD, if_neg (by unfold fxFar; simp only [Bool.or_eq_true, decide_eq_true_eq]; omega)]
theorem fxR_none {o : Int → Int → Int} {i : Bool} {a b c d e f g h : Int} (k : fxCode a b c d e f g h ≠ 0) : fxR o i a b c d e f g h = 0 := by unfold fxR; rw [if_neg k]
theorem fxR_some {o : Int → Int → Int} {i : Bool} {a b c d e f g h : Int} (k : fxCode a b c d e f g h = 0) : fxR o i a b c d e f g h = o (if i then fxN b (cross c d g h) (fxT a b e f g h) d else fxN a (cross c d g h) (fxT a b e f g h) c) (cross c d g h) := by unfold fxR; rw [if_pos k]
theorem fxT_def (a b e f g h : Int) : cross (e - a) (f - b) g h = fxT a b e f g h := rfl
theorem ratC_03 (n d : Int) : ratC n d 3 = 0 ∨ ratC n d 3 = 3 := by unfold ratC; split; exact .inl rfl; exact .inr rfl
end Go.Proofs.Ytoccglmlpobeeaa
