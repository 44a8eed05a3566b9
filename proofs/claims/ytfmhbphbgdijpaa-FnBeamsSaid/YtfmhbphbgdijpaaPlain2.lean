/- plain functions: arrays -/
import Derived.Test.YtfmhbphbgdijpaaLists
import Derived.Test.YtfmhbphbgdijpaaW1
set_option linter.unusedVariables false
set_option linter.unusedSimpArgs false
namespace Go.Proofs.Ytfmhbphbgdijpaa
open Go.RowKit

def ascTo (xs : List Int) : Nat → Bool
  | 0 => true
  | i + 1 => ascTo xs i && (decide (i = 0) || decide (xs.getD (i - 1) 0 < xs.getD i 0))
def isArr (xs : List Int) : Bool := decide (1 ≤ xs.length) && decide (xs.length ≤ 12) && allIn (-10000) 10000 xs && ascTo xs xs.length
theorem ascTo_up {xs : List Int} {k : Nat} (h : ascTo xs k = true) (hk : xs.getD (k - 1) 0 < xs.getD k 0) : ascTo xs (k + 1) = true := by
  simp only [ascTo, h, decide_eq_true hk, Bool.or_true, Bool.and_self]
theorem ascTo_down {xs : List Int} {k n : Nat} (h0 : 1 ≤ k) (hk : xs.getD k 0 ≤ xs.getD (k - 1) 0) (hn : k < n) : ascTo xs n = false := by
  induction n with
  | zero => omega
  | succ n ih =>
    by_cases e : k = n
    · subst e
      simp only [ascTo, Bool.and_eq_false_iff, Bool.or_eq_false_iff, decide_eq_false_iff_not]
      exact .inr ⟨by omega, by omega⟩
    · simp only [ascTo, ih (by omega), Bool.false_and]
theorem ascTo_one (xs : List Int) : ascTo xs 1 = true := by simp [ascTo]
end Go.Proofs.Ytfmhbphbgdijpaa
