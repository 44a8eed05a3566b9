/- slices of triples of numbers in memory -/
import Derived.Test.YtfmhbphbgdijpaaMem
import Derived.Test.YtfmhbphbgdijpaaPlain
import Derived.Laws.MakeOwn
set_option linter.unusedVariables false
set_option linter.unusedSimpArgs false
namespace Go.Proofs.Ytfmhbphbgdijpaa
open Go.RowKit

/-- a slice of n triples that can be read -/
def RdD (w : World) (A : Option Addr) (n : Nat) (f g e : Nat → Int) : Prop := n = 0 ∨ ∃ b off, A = some ⟨b, off, none⟩ ∧ ∀ k, k < n → w.cell? ⟨b, off + k * 3, none⟩ = some (.int .i64 (f k)) ∧ w.cell? ⟨b, off + k * 3 + 1, none⟩ = some (.int .i64 (g k)) ∧ w.cell? ⟨b, off + k * 3 + 2, none⟩ = some (.int .i64 (e k))
theorem RdD.below {w w2 : World} {A : Option Addr} {n : Nat} {f g e : Nat → Int} (h : RdD w A n f g e) (hb : Below w.heap.size w w2) : RdD w2 A n f g e := by
  rcases h with h | ⟨b, off, q, h⟩
  · exact .inl h
  · exact .inr ⟨b, off, q, fun k hk => ⟨later hb (h k hk).1, later hb (h k hk).2.1, later hb (h k hk).2.2⟩⟩
/-- n triples in a block of one's own -/
def TC (w : World) (G n : Nat) (f g e : Nat → Int) : Prop := ∀ j, j < n → (w.cell? ⟨G, j * 3, none⟩ = some (.int .i64 (f j)) ∧ w.cell? ⟨G, j * 3 + 1, none⟩ = some (.int .i64 (g j)) ∧ w.cell? ⟨G, j * 3 + 2, none⟩ = some (.int .i64 (e j))) ∧ w.frozen? ⟨G, j * 3, none⟩ = false ∧ w.frozen? ⟨G, j * 3 + 1, none⟩ = false ∧ w.frozen? ⟨G, j * 3 + 2, none⟩ = false
theorem TC.rd {w : World} {G n : Nat} {f g e : Nat → Int} (h : TC w G n f g e) : RdD w (some ⟨G, 0, none⟩) n f g e := .inr ⟨G, 0, rfl, fun k hk => by rw [Nat.zero_add]; exact (h k hk).1⟩
theorem TC.below {w w2 : World} {G n : Nat} {f g e : Nat → Int} (h : TC w G n f g e) (hb : Below w.heap.size w w2) : TC w2 G n f g e :=
  fun j hj => by
    obtain ⟨⟨h1, h2, h3⟩, z1, z2, z3⟩ := h j hj
    exact ⟨⟨later hb h1, later hb h2, later hb h3⟩, laterF hb h1 z1, laterF hb h2 z2, laterF hb h3 z3⟩
def upto (k : Nat) (f : Nat → Int) (j : Nat) : Int := if j < k then f j else 0
theorem upto_eq {k : Nat} {f : Nat → Int} : upto (k + 1) f k = f k := if_pos (Nat.lt_succ_self _)
theorem upto_ne {k j : Nat} {f : Nat → Int} (h : j ≠ k) : upto (k + 1) f j = upto k f j := by
  unfold upto
  by_cases q : j < k
  · rw [if_pos q, if_pos (by omega)]
  · rw [if_neg q, if_neg (by omega)]
/-- three cells in a row are written -/
theorem three_same {w : World} {G o : Nat} {x y z u1 u2 u3 : Value} (h1 : w.cell? ⟨G, o, none⟩ = some u1) (h2 : w.cell? ⟨G, o + 1, none⟩ = some u2) (h3 : w.cell? ⟨G, o + 2, none⟩ = some u3) :
    (((w.setCell ⟨G, o, none⟩ x).setCell ⟨G, o + 1, none⟩ y).setCell ⟨G, o + 2, none⟩ z).cell? ⟨G, o, none⟩ = some x ∧ (((w.setCell ⟨G, o, none⟩ x).setCell ⟨G, o + 1, none⟩ y).setCell ⟨G, o + 2, none⟩ z).cell? ⟨G, o + 1, none⟩ = some y ∧ (((w.setCell ⟨G, o, none⟩ x).setCell ⟨G, o + 1, none⟩ y).setCell ⟨G, o + 2, none⟩ z).cell? ⟨G, o + 2, none⟩ = some z := by
  have d1 : ∀ p q : Nat, p ≠ q → (⟨G, p, none⟩ : Addr) ≠ ⟨G, q, none⟩ := fun p q hne e => hne (by injection e)
  refine ⟨?_, ?_, ?_⟩
  · rw [World.cell?_setCell_other _ _ _ _ (d1 _ _ (by omega)), World.cell?_setCell_other _ _ _ _ (d1 _ _ (by omega))]
    exact World.cell?_setCell_same _ _ _ h1
  · rw [World.cell?_setCell_other _ _ _ _ (d1 _ _ (by omega))]
    exact World.cell?_setCell_same _ _ _ ((World.cell?_setCell_other _ _ _ _ (d1 _ _ (by omega))).trans h2)
  · exact World.cell?_setCell_same _ _ _ ((World.cell?_setCell_other _ _ _ _ (d1 _ _ (by omega))).trans ((World.cell?_setCell_other _ _ _ _ (d1 _ _ (by omega))).trans h3))
theorem three_other {w : World} {G o p : Nat} {x y z : Value} (h : p ≠ o ∧ p ≠ o + 1 ∧ p ≠ o + 2) :
    (((w.setCell ⟨G, o, none⟩ x).setCell ⟨G, o + 1, none⟩ y).setCell ⟨G, o + 2, none⟩ z).cell? ⟨G, p, none⟩ = w.cell? ⟨G, p, none⟩ := by
  have d1 : ∀ p q : Nat, p ≠ q → (⟨G, p, none⟩ : Addr) ≠ ⟨G, q, none⟩ := fun p q hne e => hne (by injection e)
  rw [World.cell?_setCell_other _ _ _ _ (d1 _ _ (Ne.symm h.2.2)), World.cell?_setCell_other _ _ _ _ (d1 _ _ (Ne.symm h.2.1)), World.cell?_setCell_other _ _ _ _ (d1 _ _ (Ne.symm h.1))]
theorem TC.put {w : World} {G n k : Nat} {f g e : Nat → Int} (h : TC w G n (upto k f) (upto k g) (upto k e)) (hk : k < n) :
    TC (((w.setCell ⟨G, k * 3, none⟩ (.int .i64 (f k))).setCell ⟨G, k * 3 + 1, none⟩ (.int .i64 (g k))).setCell ⟨G, k * 3 + 2, none⟩ (.int .i64 (e k))) G n (upto (k + 1) f) (upto (k + 1) g) (upto (k + 1) e) := by
  intro j hj
  obtain ⟨⟨h1, h2, h3⟩, z1, z2, z3⟩ := h j hj
  simp only [World.frozen?_setCell]
  refine ⟨?_, z1, z2, z3⟩
  by_cases q : j = k
  · subst q
    rw [upto_eq, upto_eq, upto_eq]
    exact three_same h1 h2 h3
  · rw [upto_ne q, upto_ne q, upto_ne q, three_other (by omega), three_other (by omega), three_other (by omega)]
    exact ⟨h1, h2, h3⟩
theorem TC.all {w : World} {G n : Nat} {f g e : Nat → Int} (h : TC w G n (upto n f) (upto n g) (upto n e)) : TC w G n f g e := by
  intro j hj
  have := h j hj
  unfold upto at this
  simpa [hj] using this
/-- the zeros that make lays, in triples -/
theorem trips_zero (w : World) (t : TypeId) (n : Nat) (f g e : Nat → Int) : TC (w.alloc (.cells (madeCells #[.int .i64 0, .int .i64 0, .int .i64 0] (n * 3)) t)) w.heap.size n (upto 0 f) (upto 0 g) (upto 0 e) := by
  intro j hj
  have key : ∀ i, i < n * 3 → (w.alloc (.cells (madeCells #[.int .i64 0, .int .i64 0, .int .i64 0] (n * 3)) t)).cell? ⟨w.heap.size, i, none⟩ = some (.int .i64 0) := by
    intro i hi
    rw [World.cell?_alloc_new]
    have h2 : i % 3 = 0 ∨ i % 3 = 1 ∨ i % 3 = 2 := by omega
    simp only [madeCells, Array.getElem?_map, Array.getElem?_range]
    rw [if_pos hi]
    rcases h2 with h2 | h2 | h2 <;> simp [h2]
  exact ⟨⟨key _ (by omega), key _ (by omega), key _ (by omega)⟩, World.frozen?_alloc_new w _ t _, World.frozen?_alloc_new w _ t _, World.frozen?_alloc_new w _ t _⟩
theorem make_trips {P : Program} (t e : TypeId) (i : TypeInfo) (ht : P.underlying t = some (.slice e)) (hi : P.info? e = some i) (hz : i.zero = some (.agg #[.int .i64 0, .int .i64 0, .int .i64 0])) (h1 : i.size = 3) (h8 : i.bytes = 24)
    (n : Nat) (hn : n ≤ 1099511627776) (w : World) :
    (Instr.makeSlice t (.int .i64 (n : Int)) (.int .i64 (n : Int))).run P w = .ok (.slice (some ⟨w.heap.size, 0, none⟩) n n) (w.alloc (.cells (madeCells #[.int .i64 0, .int .i64 0, .int .i64 0] (n * 3)) e)) := by
  have hr := run_make (P := P) w t e i (.agg #[.int .i64 0, .int .i64 0, .int .i64 0]) ht hi hz .i64 .i64 (n : Int) (n : Int) (by omega) (Int.le_refl _) (by rw [h8]; omega) (by omega)
  rw [hr]
  simp only [Int.toNat_natCast, h1]; rfl
end Go.Proofs.Ytfmhbphbgdijpaa
