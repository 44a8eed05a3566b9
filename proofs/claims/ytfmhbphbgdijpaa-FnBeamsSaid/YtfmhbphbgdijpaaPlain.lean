/- plain functions: what the Go functions of these layers compute -/
import Derived.Below
import Derived.IntWalk
set_option linter.unusedVariables false
set_option linter.unusedSimpArgs false
namespace Go.Proofs.Ytfmhbphbgdijpaa
open Go.RowKit

def inR (x lo hi : Int) : Bool := decide (lo ≤ x) && decide (x ≤ hi)
theorem inR_iff {x lo hi : Int} : inR x lo hi = true ↔ lo ≤ x ∧ x ≤ hi := by simp [inR]
theorem inR_not {x lo hi : Int} : inR x lo hi = false ↔ x < lo ∨ hi < x := by simp [inR]; omega
end Go.Proofs.Ytfmhbphbgdijpaa
