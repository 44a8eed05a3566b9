/- plain functions: positions -/
import Derived.Test.YtoccglmlpobeeaaPlain2
set_option linter.unusedVariables false
set_option linter.unusedSimpArgs false
namespace Go.Proofs.Ytoccglmlpobeeaa
open Go.RowKit

theorem bseq {w w1 w2 : World} (h1 : Below w.heap.size w w1) (h2 : Below w1.heap.size w1 w2) : Below w.heap.size w w2 := h1.trans (h2.mono h1.size)
def posIn (p q r s t : Int) : Bool := isPt 100000 (p + t * r) (q + t * s)
def posOk (p q r s t : Int) : Bool := isTr p q r s && inR t 0 1000 && posIn p q r s t
def posX (p q r s t : Int) : Int := if posOk p q r s t then p + t * r else 0
def posY (p q r s t : Int) : Int := if posOk p q r s t then q + t * s else 0
def posCode (p q r s t : Int) : Int := if isTr p q r s then (if inR t 0 1000 then (if posIn p q r s t then 0 else 3) else 2) else 1
theorem inR_iff {x lo hi : Int} : inR x lo hi = true ↔ lo ≤ x ∧ x ≤ hi := by simp [inR]
end Go.Proofs.Ytoccglmlpobeeaa
