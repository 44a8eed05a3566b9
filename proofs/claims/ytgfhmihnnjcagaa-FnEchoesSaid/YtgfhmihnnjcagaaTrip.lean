/- a row that is written and two slices in the making -/
import Derived.Test.YtgfhmihnnjcagaaTwo
set_option linter.unusedVariables false
set_option linter.unusedSimpArgs false
namespace Go.Proofs.Ytgfhmihnnjcagaa
open Go.RowKit

/-- a row of one's own and two slices of one's own, in three blocks -/
def Trip (w : World) (B g0 : Nat) (ys : List Int) (v : Value) (ds : List Int) (u : Value) (gs : List Int) : Prop :=
  Cells w g0 0 ys ∧ OwnV w B v ds ∧ OwnV w B u gs ∧ v.ownBlock ≠ some g0 ∧ u.ownBlock ≠ some g0 ∧ (∀ q, v.ownBlock = some q → u.ownBlock = some q → False) ∧ g0 < w.heap.size
theorem Trip.below {w w2 : World} {B g0 : Nat} {ys ds gs : List Int} {v u : Value} (h : Trip w B g0 ys v ds u gs) (hb : Below w.heap.size w w2) : Trip w2 B g0 ys v ds u gs :=
  ⟨h.1.below hb, h.2.1.below hb, h.2.2.1.below hb, h.2.2.2.1, h.2.2.2.2.1, h.2.2.2.2.2.1, Nat.lt_of_lt_of_le h.2.2.2.2.2.2 hb.size⟩
theorem Trip.swap {w : World} {B g0 : Nat} {ys ds gs : List Int} {v u : Value} (h : Trip w B g0 ys v ds u gs) : Trip w B g0 ys u gs v ds :=
  ⟨h.1, h.2.2.1, h.2.1, h.2.2.2.2.1, h.2.2.2.1, fun q h1 h2 => h.2.2.2.2.2.1 q h2 h1, h.2.2.2.2.2.2⟩
theorem Trip.app {w w2 : World} {B g0 g cap : Nat} {ys ds gs : List Int} {v u : Value} {z : Int} (h : Trip w B g0 ys v ds u gs) (o : Obj)
    (hown : OwnV w2 B (.slice (some ⟨g, 0, none⟩) (ds.length + 1) cap) (ds ++ [z])) (hg : (w.alloc o).grownBy w2 v.ownBlock) (hat : v.ownBlock = some g ∨ g = (w.alloc o).heap.size) :
    Trip w2 B g0 ys (.slice (some ⟨g, 0, none⟩) (ds.length + 1) cap) (ds ++ [z]) u gs := by
  have h1 : Trip (w.alloc o) B g0 ys v ds u gs := h.below (Below.alloc (Below.refl _ _) (Nat.le_refl _) o)
  obtain ⟨hc, hv, hu, n1, n2, n3, hlt⟩ := h1
  refine ⟨hc.stay hg n1, hown, hu.stay hg (fun k h1 h2 => n3 k h2 h1), ?_, n2, ?_, Nat.lt_of_lt_of_le hlt hg.size⟩
  · intro e
    injection e with e
    have e : g = g0 := e
    rcases hat with h2 | h2
    · exact n1 (by rw [h2, e])
    · omega
  · intro q hq hu2
    have e : g = q := by injection hq
    rcases hat with h2 | h2
    · exact n3 q (by rw [h2, e]) hu2
    · have := (World.ownsRow.lt hu q hu2).2
      omega
theorem Trip.bel {w0 w w2 : World} {B g0 : Nat} {ys ds gs : List Int} {v u : Value} (h : Trip w B g0 ys v ds u gs) (o : Obj) (hb : Below B w0 w) (hB : B ≤ w.heap.size) (hg : (w.alloc o).grownBy w2 v.ownBlock) : Below B w0 w2 :=
  (hb.alloc hB o).grown hg (by simp only [World.size_alloc]; omega) (fun k hk => (World.ownsRow.lt h.2.1 k hk).1)
theorem Trip.row {w w2 : World} {B g0 : Nat} {ys ys2 ds gs : List Int} {v u : Value} (h : Trip w B g0 ys v ds u gs) (hc : Cells w2 g0 0 ys2) (hg : w.grownBy w2 (some g0)) : Trip w2 B g0 ys2 v ds u gs :=
  ⟨hc, h.2.1.stay hg (fun k h1 h2 => h.2.2.2.1 (by rw [h1, h2])), h.2.2.1.stay hg (fun k h1 h2 => h.2.2.2.2.1 (by rw [h1, h2])), h.2.2.2.1, h.2.2.2.2.1, h.2.2.2.2.2.1, Nat.lt_of_lt_of_le h.2.2.2.2.2.2 hg.size⟩
theorem OwnV.ownBlock {w : World} {B : Nat} {v : Value} {ys : List Int} {A : Option Addr} {n c : Nat} (h : OwnV w B v ys) (e : v = .slice A n c) : v.ownBlock = blk A := by
  subst e; cases A <;> rfl
theorem Trip.out {w : World} {B g0 : Nat} {ys ds gs : List Int} {v u : Value} (h : Trip w B g0 ys v ds u gs) :
    ∃ A0 c0 A1 c1, v = .slice A0 ds.length c0 ∧ u = .slice A1 gs.length c1 ∧ OwnR w B A0 ds.length c0 ds ∧ OwnR w B A1 gs.length c1 gs ∧ Apart A0 A1 := by
  obtain ⟨A0, c0, e0, hR0⟩ := h.2.1.R
  obtain ⟨A1, c1, e1, hR1⟩ := h.2.2.1.R
  refine ⟨A0, c0, A1, c1, e0, e1, hR0, hR1, fun k h0 h1 => h.2.2.2.2.2.1 k ?_ ?_⟩
  · rw [h.2.1.ownBlock e0]; exact h0
  · rw [h.2.2.1.ownBlock e1]; exact h1
end Go.Proofs.Ytgfhmihnnjcagaa
