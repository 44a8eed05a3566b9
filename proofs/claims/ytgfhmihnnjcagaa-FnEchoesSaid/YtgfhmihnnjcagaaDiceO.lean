/- dice beside slices of one's own -/
import Derived.Test.YtgfhmihnnjcagaaDice
import Derived.Test.YtgfhmihnnjcagaaDrW7
set_option linter.unusedVariables false
set_option linter.unusedSimpArgs false
namespace Go.Proofs.Ytgfhmihnnjcagaa
open Go.RowKit

theorem Dice.alloc {w : World} {s : Nat} (h : Dice w s) (o : Obj) : Dice (w.alloc o) s := h.below (Below.alloc (Below.refl _ _) (Nat.le_refl _) _)
theorem Dice.low {w w2 : World} {s B : Nat} (h : Dice w s) (hb : Below B w w2) (hs : s < B) : Dice w2 s := by
  obtain ⟨A, n, c, p, d, ⟨c0, c1, c2, z1, z2⟩, r1, r2, r5, r6⟩ := h
  refine ⟨A, n, c, p, d, ⟨cellB hb c0 hs, cellB hb c1 hs, cellB hb c2 hs, frozenB hb z1 hs, frozenB hb z2 hs⟩, r1, r2, ?_, r6⟩
  rcases Nat.eq_zero_or_pos n with h0 | h0
  · exact .inl h0
  rcases r5 with h | ⟨b, off, e, h⟩
  · exact .inl h
  · exact .inr ⟨b, off, e, fun k hk => by
      obtain ⟨x, hx, h2⟩ := h k hk
      exact ⟨x, cellB hb hx (Nat.lt_trans (r6 h0 b off e) hs), h2⟩⟩
end Go.Proofs.Ytgfhmihnnjcagaa
