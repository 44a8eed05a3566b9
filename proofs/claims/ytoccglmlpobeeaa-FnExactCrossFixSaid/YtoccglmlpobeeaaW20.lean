/- walks: CrossFix -/
import Derived.Test.YtoccglmlpobeeaaW18
import Derived.Test.YtoccglmlpobeeaaW19
set_option linter.unusedVariables false
set_option linter.unusedSimpArgs false
namespace Go.Proofs.Ytoccglmlpobeeaa
open Go.RowKit

theorem sFix_any (a b c d e f g h : Int) (w : World) : Calls Try.prog 60 #[.agg #[.int .i64 a, .int .i64 b], .agg #[.int .i64 c, .int .i64 d], .agg #[.int .i64 e, .int .i64 f], .agg #[.int .i64 g, .int .i64 h]] w fun en w9 => en = .returned (.tuple #[.agg #[.int .i64 (fxR ratX false a b c d e f g h), .int .i64 (fxR ratY false a b c d e f g h)], .agg #[.int .i64 (fxR ratX true a b c d e f g h), .int .i64 (fxR ratY true a b c d e f g h)], .int .i64 (fxCode a b c d e f g h)]) ∧ Below w.heap.size w w9 := by
  rcases Bool.eq_false_or_eq_true (fxOk a b c d e f g h) with hk | hk
  · exact sFixYes_any a b c d e f g h w hk
  · exact sFixNo_any a b c d e f g h w hk
theorem iFix_any (a b c d e f g h : Int) (w : World) : Calls Try.prog 61 #[.agg #[.int .i64 a, .int .i64 b], .agg #[.int .i64 c, .int .i64 d], .agg #[.int .i64 e, .int .i64 f], .agg #[.int .i64 g, .int .i64 h]] w fun en w9 => en = .returned (.tuple #[.agg #[.int .i64 (fxR ratX false a b c d e f g h), .int .i64 (fxR ratY false a b c d e f g h)], .agg #[.int .i64 (fxR ratX true a b c d e f g h), .int .i64 (fxR ratY true a b c d e f g h)], .int .i64 (fxCode a b c d e f g h)]) ∧ Below w.heap.size w w9 := by
  rcases Bool.eq_false_or_eq_true (fxOk a b c d e f g h) with hk | hk
  · exact iFixYes_any a b c d e f g h w hk
  · exact iFixNo_any a b c d e f g h w hk
end Go.Proofs.Ytoccglmlpobeeaa
