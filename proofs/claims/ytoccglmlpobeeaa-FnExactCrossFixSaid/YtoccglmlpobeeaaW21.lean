/- walks: CrossFix, its answers by letters -/
import Derived.Test.YtoccglmlpobeeaaW20
import Derived.Test.YtoccglmlpobeeaaDrW7
set_option linter.unusedVariables false
set_option linter.unusedSimpArgs false
namespace Go.Proofs.Ytoccglmlpobeeaa
open Go.RowKit

/-- what CrossFix answers, by letters -/
def FxV (a b c d e f g h X x Y y k : Int) : Prop := X = fxR ratX false a b c d e f g h ∧ x = fxR ratY false a b c d e f g h ∧ Y = fxR ratX true a b c d e f g h ∧ y = fxR ratY true a b c d e f g h ∧ k = fxCode a b c d e f g h
theorem fx_letters (a b c d e f g h : Int) : ∃ X x Y y k : Int, Hid (FxV a b c d e f g h X x Y y k) := ⟨_, _, _, _, _, rfl, rfl, rfl, rfl, rfl⟩
theorem fx_letters_swap {a b c d e f g h X x Y y k : Int} (H : Hid (FxV a b c d e f g h X x Y y k)) : Hid (FxV e f g h a b c d X x Y y k) := by
  obtain ⟨h1, h2, h3, h4, h5⟩ := H.out
  have s := fx_swap (a := a) (b := b) (c := c) (d := d) (e := e) (f := f) (g := g) (h := h)
  show FxV _ _ _ _ _ _ _ _ _ _ _ _ _
  exact ⟨h1.trans (s.2 false).1.symm, h2.trans (s.2 false).2.symm, h3.trans (s.2 true).1.symm, h4.trans (s.2 true).2.symm, h5.trans s.1.symm⟩
theorem iFixL_any (a b c d e f g h X x Y y k : Int) (w : World) (H : Hid (FxV a b c d e f g h X x Y y k)) :
    Calls Try.prog 61 #[.agg #[.int .i64 a, .int .i64 b], .agg #[.int .i64 c, .int .i64 d], .agg #[.int .i64 e, .int .i64 f], .agg #[.int .i64 g, .int .i64 h]] w fun en w9 => en = .returned (.tuple #[.agg #[.int .i64 X, .int .i64 x], .agg #[.int .i64 Y, .int .i64 y], .int .i64 k]) ∧ Below w.heap.size w w9 := by
  obtain ⟨rfl, rfl, rfl, rfl, rfl⟩ := H.out
  exact iFix_any a b c d e f g h w
theorem sFixL_any (a b c d e f g h X x Y y k : Int) (w : World) (H : Hid (FxV a b c d e f g h X x Y y k)) :
    Calls Try.prog 60 #[.agg #[.int .i64 a, .int .i64 b], .agg #[.int .i64 c, .int .i64 d], .agg #[.int .i64 e, .int .i64 f], .agg #[.int .i64 g, .int .i64 h]] w fun en w9 => en = .returned (.tuple #[.agg #[.int .i64 X, .int .i64 x], .agg #[.int .i64 Y, .int .i64 y], .int .i64 k]) ∧ Below w.heap.size w w9 := by
  obtain ⟨rfl, rfl, rfl, rfl, rfl⟩ := H.out
  exact sFix_any a b c d e f g h w
theorem line_wrap {a b c d X x Y y : Int} (h : c * (Y * x - b * x * y) - d * (X * y - a * x * y) = 0) :
    wrap64 (wrap64 (c * wrap64 (wrap64 (Y * x) - wrap64 (wrap64 (b * x) * y))) - wrap64 (d * wrap64 (wrap64 (X * y) - wrap64 (wrap64 (a * x) * y)))) = 0 := by
  simp only [wr_mul_l, wr_mul_r, wr_sub_l, wr_sub_r]
  rw [h]; simp [wrap64]
theorem fx_lines' {a b c d e f g h X x Y y k : Int} (H : Hid (FxV a b c d e f g h X x Y y k)) (hk : k = 0) :
    wrap64 (wrap64 (c * wrap64 (wrap64 (Y * x) - wrap64 (wrap64 (b * x) * y))) - wrap64 (d * wrap64 (wrap64 (X * y) - wrap64 (wrap64 (a * x) * y)))) = 0 ∧
    wrap64 (wrap64 (g * wrap64 (wrap64 (Y * x) - wrap64 (wrap64 (f * x) * y))) - wrap64 (h * wrap64 (wrap64 (X * y) - wrap64 (wrap64 (e * x) * y)))) = 0 := by
  obtain ⟨h1, h2, h3, h4, h5⟩ := H.out
  have l := fx_lines (h5.symm.trans hk) h1 h2 h3 h4
  exact ⟨line_wrap l.1, line_wrap l.2⟩
end Go.Proofs.Ytoccglmlpobeeaa
