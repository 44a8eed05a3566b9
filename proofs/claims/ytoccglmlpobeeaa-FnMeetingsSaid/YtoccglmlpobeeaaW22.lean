/- walks: what the law of meetings calls, by letters -/
import Derived.Test.YtoccglmlpobeeaaPlainM2
import Derived.Test.YtoccglmlpobeeaaW7
import Derived.Test.YtoccglmlpobeeaaW10
import Derived.Test.YtoccglmlpobeeaaW14
import Derived.Test.YtoccglmlpobeeaaW15
import Derived.Test.YtoccglmlpobeeaaW16
import Derived.Test.YtoccglmlpobeeaaW17
import Derived.Test.YtoccglmlpobeeaaDrW5
import Derived.Test.YtoccglmlpobeeaaDice
set_option linter.unusedVariables false
set_option linter.unusedSimpArgs false
namespace Go.Proofs.Ytoccglmlpobeeaa
open Go.RowKit

theorem iCSL_any (p q r s t u v z X Y K T U J : Int) (M : Bool) (C : Int) (w : World) (H : Hid (MtV p q r s t u v z X Y K T U J M C)) :
    Calls Try.prog 59 #[.agg #[.int .i64 p, .int .i64 q, .int .i64 r, .int .i64 s], .agg #[.int .i64 t, .int .i64 u, .int .i64 v, .int .i64 z]] w fun en w9 => en = .returned (.tuple #[.agg #[.int .i64 X, .int .i64 Y], .int .i64 K]) ∧ Below w.heap.size w w9 := by
  obtain ⟨rfl, rfl, rfl, rfl, rfl, rfl, rfl, rfl⟩ := H.out
  exact iCS_any p q r s t u v z w

theorem iCTL_any (p q r s t u v z X Y K T U J : Int) (M : Bool) (C : Int) (w : World) (H : Hid (MtV p q r s t u v z X Y K T U J M C)) :
    Calls Try.prog 56 #[.agg #[.int .i64 p, .int .i64 q, .int .i64 r, .int .i64 s], .agg #[.int .i64 t, .int .i64 u, .int .i64 v, .int .i64 z]] w fun en w9 => en = .returned (.tuple #[.agg #[.int .i64 T, .int .i64 U], .int .i64 J]) ∧ Below w.heap.size w w9 := by
  obtain ⟨rfl, rfl, rfl, rfl, rfl, rfl, rfl, rfl⟩ := H.out
  exact iCT_any p q r s t u v z w

theorem iDoL_any (p q r s t u v z X Y K T U J : Int) (M : Bool) (C : Int) (w : World) (H : Hid (MtV p q r s t u v z X Y K T U J M C)) :
    Calls Try.prog 41 #[.agg #[.int .i64 p, .int .i64 q, .int .i64 r, .int .i64 s], .agg #[.int .i64 t, .int .i64 u, .int .i64 v, .int .i64 z]] w fun en w9 => en = .returned (.tuple #[.bool M, .int .i64 C]) ∧ Below w.heap.size w w9 := by
  obtain ⟨rfl, rfl, rfl, rfl, rfl, rfl, rfl, rfl⟩ := H.out
  exact iDo_any p q r s t u v z w

theorem sCSL_any (p q r s t u v z X Y K T U J : Int) (M : Bool) (C : Int) (w : World) (H : Hid (MtV p q r s t u v z X Y K T U J M C)) :
    Calls Try.prog 58 #[.agg #[.int .i64 p, .int .i64 q, .int .i64 r, .int .i64 s], .agg #[.int .i64 t, .int .i64 u, .int .i64 v, .int .i64 z]] w fun en w9 => en = .returned (.tuple #[.agg #[.int .i64 X, .int .i64 Y], .int .i64 K]) ∧ Below w.heap.size w w9 := by
  obtain ⟨rfl, rfl, rfl, rfl, rfl, rfl, rfl, rfl⟩ := H.out
  exact sCS_any p q r s t u v z w

theorem sCTL_any (p q r s t u v z X Y K T U J : Int) (M : Bool) (C : Int) (w : World) (H : Hid (MtV p q r s t u v z X Y K T U J M C)) :
    Calls Try.prog 55 #[.agg #[.int .i64 p, .int .i64 q, .int .i64 r, .int .i64 s], .agg #[.int .i64 t, .int .i64 u, .int .i64 v, .int .i64 z]] w fun en w9 => en = .returned (.tuple #[.agg #[.int .i64 T, .int .i64 U], .int .i64 J]) ∧ Below w.heap.size w w9 := by
  obtain ⟨rfl, rfl, rfl, rfl, rfl, rfl, rfl, rfl⟩ := H.out
  exact sCT_any p q r s t u v z w

theorem sDoL_any (p q r s t u v z X Y K T U J : Int) (M : Bool) (C : Int) (w : World) (H : Hid (MtV p q r s t u v z X Y K T U J M C)) :
    Calls Try.prog 39 #[.agg #[.int .i64 p, .int .i64 q, .int .i64 r, .int .i64 s], .agg #[.int .i64 t, .int .i64 u, .int .i64 v, .int .i64 z]] w fun en w9 => en = .returned (.tuple #[.bool M, .int .i64 C]) ∧ Below w.heap.size w w9 := by
  obtain ⟨rfl, rfl, rfl, rfl, rfl, rfl, rfl, rfl⟩ := H.out
  exact sDo_any p q r s t u v z w

def PosLPost (p q r s t : Int) (w : World) (en : Ending) (w9 : World) : Prop := ∃ x y k : Int, en = .returned (.tuple #[.agg #[.int .i64 x, .int .i64 y], .int .i64 k]) ∧ Hid (PosV p q r s t x y k) ∧ Below w.heap.size w w9
theorem iPosL_any (p q r s t : Int) (w : World) : Calls Try.prog 43 #[.agg #[.int .i64 p, .int .i64 q, .int .i64 r, .int .i64 s], .int .i64 t] w (PosLPost p q r s t w) :=
  (iPos_any p q r s t w).mono fun _ _ h => ⟨_, _, _, h.1, ⟨rfl, rfl, rfl⟩, h.2⟩
end Go.Proofs.Ytoccglmlpobeeaa
