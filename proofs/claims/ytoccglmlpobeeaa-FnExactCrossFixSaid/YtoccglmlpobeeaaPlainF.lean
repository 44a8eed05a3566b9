/- plain: two lines meet (the point of a fix) -/
import Derived.Test.YtoccglmlpobeeaaPlainC
import Derived.Test.YtoccglmlpobeeaaPlainS
set_option linter.unusedVariables false
set_option linter.unusedSimpArgs false
namespace Go.Proofs.Ytoccglmlpobeeaa
open Go.RowKit

def fxOk (a b c d e f g h : Int) : Bool := isPt 100000 a b && isBear c d && isPt 100000 e f && isBear g h
def fxT (a b e f g h : Int) : Int := cross (e - a) (f - b) g h
def fxFar (x y : Int) : Bool := decide (sgn x * sgn y < 0)
def fxN (a D T c : Int) : Int := a * D + T * c
def fxLim (a b c d D T : Int) : Bool := (ratC (fxN a D T c) D 3 != 0) || (ratC (fxN b D T d) D 3 != 0)
def fxCode (a b c d e f g h : Int) : Int :=
  if fxOk a b c d e f g h then (if cross c d g h = 0 then 5 else if fxFar (fxT a b e f g h) (cross c d g h) || fxFar (fxT a b e f c d) (cross c d g h) then 4
    else if fxLim a b c d (cross c d g h) (fxT a b e f g h) then 3 else 0) else 1
def fxR (o : Int → Int → Int) (i : Bool) (a b c d e f g h : Int) : Int :=
  if fxCode a b c d e f g h = 0 then o (if i then fxN b (cross c d g h) (fxT a b e f g h) d else fxN a (cross c d g h) (fxT a b e f g h) c) (cross c d g h) else 0
end Go.Proofs.Ytoccglmlpobeeaa
