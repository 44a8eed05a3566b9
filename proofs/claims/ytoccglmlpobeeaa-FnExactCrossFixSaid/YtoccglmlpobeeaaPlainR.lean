/- plain functions: ratios -/
import Derived.Test.YtoccglmlpobeeaaNum
set_option linter.unusedVariables false
set_option linter.unusedSimpArgs false
namespace Go.Proofs.Ytoccglmlpobeeaa
open Go.RowKit

def gcdI (a b : Int) : Int := ((Int.gcd a b : Nat) : Int)
def isRat (a b : Int) : Bool := inR a (-1000000000) 1000000000 && inR b 1 1000000000 && (gcdI a b == 1)
def ratN (n d : Int) : Int := if d < 0 then -n else n
def ratD (d : Int) : Int := if d < 0 then -d else d
def ratA (n d : Int) : Int := (ratN n d).tdiv (gcdI (ratN n d) (ratD d))
def ratB (n d : Int) : Int := (ratD d).tdiv (gcdI (ratN n d) (ratD d))
def ratOk (n d : Int) : Bool := isRat (ratA n d) (ratB n d)
def ratX (n d : Int) : Int := if ratOk n d then ratA n d else 0
def ratY (n d : Int) : Int := if ratOk n d then ratB n d else 0
def ratC (n d e : Int) : Int := if ratOk n d then 0 else e
theorem gcdI_pos {n d : Int} (h : d ≠ 0) : 1 ≤ gcdI n d := by
  have h1 : 0 < Int.gcd n d := Nat.pos_of_ne_zero (fun e => h (Int.gcd_eq_zero_iff.1 e).2)
  unfold gcdI; omega
theorem gcdI_le {n d : Int} (h : d ≠ 0) : gcdI n d ≤ iabs d := by
  have h1 : Int.gcd n d ≤ d.natAbs := Nat.gcd_le_right _ (by omega)
  unfold gcdI iabs; omega
end Go.Proofs.Ytoccglmlpobeeaa
