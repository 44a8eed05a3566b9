/- walks: ratios, their numbers by letters -/
import Derived.Test.YtoccglmlpobeeaaPlainF2
import Derived.Test.YtoccglmlpobeeaaW10
import Derived.Test.YtoccglmlpobeeaaW15
set_option linter.unusedVariables false
set_option linter.unusedSimpArgs false
namespace Go.Proofs.Ytoccglmlpobeeaa
open Go.RowKit

def RatPost (n d : Int) (w : World) (en : Ending) (w9 : World) : Prop := ∃ x y k : Int, en = .returned (.tuple #[.agg #[.int .i64 x, .int .i64 y], .int .i64 k]) ∧ Hid (x = ratX n d ∧ y = ratY n d ∧ k = ratC n d 3) ∧ Below w.heap.size w w9
theorem l12RatioP_any (n d : Int) (w : World) (hn : -1000000000000000000 ≤ n ∧ n ≤ 1000000000000000000) (hd : -1000000000000000000 ≤ d ∧ d ≤ 1000000000000000000) (hz : d ≠ 0) :
    Calls Try.prog 102 #[.int .i64 n, .int .i64 d] w (RatPost n d w) := (l12Ratio_any n d w hn hd hz).mono fun _ _ h => ⟨_, _, _, h.1, ⟨rfl, rfl, rfl⟩, h.2⟩
theorem iRatioP_any (n d : Int) (w : World) (hn : -1000000000000000000 ≤ n ∧ n ≤ 1000000000000000000) (hd : -1000000000000000000 ≤ d ∧ d ≤ 1000000000000000000) (hz : d ≠ 0) :
    Calls Try.prog 103 #[.int .i64 n, .int .i64 d, .int .i64 3] w (RatPost n d w) := (iRatio_any n d 3 w hn hd hz).mono fun _ _ h => ⟨_, _, _, h.1, ⟨rfl, rfl, rfl⟩, h.2⟩
end Go.Proofs.Ytoccglmlpobeeaa
