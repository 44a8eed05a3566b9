/- slices of pairs of numbers in memory -/
import Derived.Test.YtoccglmlpobeeaaMem
import Derived.Test.YtoccglmlpobeeaaPlain
import Derived.Laws.MakeOwn
set_option linter.unusedVariables false
set_option linter.unusedSimpArgs false
namespace Go.Proofs.Ytoccglmlpobeeaa
open Go.RowKit

/-- a slice of n pairs that can be read -/
def RdP (w : World) (A : Option Addr) (n : Nat) (f g : Nat → Int) : Prop := n = 0 ∨ ∃ b off, A = some ⟨b, off, none⟩ ∧ ∀ k, k < n → w.cell? ⟨b, off + k * 2, none⟩ = some (.int .i64 (f k)) ∧ w.cell? ⟨b, off + k * 2 + 1, none⟩ = some (.int .i64 (g k))
theorem RdP.below {w w2 : World} {A : Option Addr} {n : Nat} {f g : Nat → Int} (h : RdP w A n f g) (hb : Below w.heap.size w w2) : RdP w2 A n f g := by
  rcases h with h | ⟨b, off, e, h⟩
  · exact .inl h
  · exact .inr ⟨b, off, e, fun k hk => ⟨later hb (h k hk).1, later hb (h k hk).2⟩⟩
/-- n pairs in a block of one's own -/
def PC (w : World) (G n : Nat) (f g : Nat → Int) : Prop := ∀ j, j < n → w.cell? ⟨G, j * 2, none⟩ = some (.int .i64 (f j)) ∧ w.cell? ⟨G, j * 2 + 1, none⟩ = some (.int .i64 (g j)) ∧ w.frozen? ⟨G, j * 2, none⟩ = false ∧ w.frozen? ⟨G, j * 2 + 1, none⟩ = false
theorem PC.rd {w : World} {G n : Nat} {f g : Nat → Int} (h : PC w G n f g) : RdP w (some ⟨G, 0, none⟩) n f g := .inr ⟨G, 0, rfl, fun k hk => by rw [Nat.zero_add]; exact ⟨(h k hk).1, (h k hk).2.1⟩⟩
theorem PC.below {w w2 : World} {G n : Nat} {f g : Nat → Int} (h : PC w G n f g) (hb : Below w.heap.size w w2) : PC w2 G n f g :=
  fun j hj => ⟨later hb (h j hj).1, later hb (h j hj).2.1, laterF hb (h j hj).1 (h j hj).2.2.1, laterF hb (h j hj).2.1 (h j hj).2.2.2⟩
def upto (k : Nat) (f : Nat → Int) (j : Nat) : Int := if j < k then f j else 0
theorem PC.put {w : World} {G n k : Nat} {f g : Nat → Int} (h : PC w G n (upto k f) (upto k g)) (hk : k < n) :
    PC ((w.setCell ⟨G, k * 2, none⟩ (.int .i64 (f k))).setCell ⟨G, k * 2 + 1, none⟩ (.int .i64 (g k))) G n (upto (k + 1) f) (upto (k + 1) g) := by
  intro j hj
  obtain ⟨h1, h2, h3, h4⟩ := h j hj
  rw [World.frozen?_setCell, World.frozen?_setCell, World.frozen?_setCell, World.frozen?_setCell]
  refine ⟨?_, ?_, h3, h4⟩
  · by_cases e : j = k
    · subst e
      rw [World.cell?_setCell_other (h := by intro e2; injection e2 with _ e3; omega), World.cell?_setCell_same (h := h1)]
      unfold upto; rw [if_pos (by omega)]
    · rw [World.cell?_setCell_other (h := by intro e2; injection e2 with _ e3; omega), World.cell?_setCell_other (h := by intro e2; injection e2 with _ e3; omega), h1]
      unfold upto; congr 2; by_cases q : j < k
      · rw [if_pos q, if_pos (by omega)]
      · rw [if_neg q, if_neg (by omega)]
  · by_cases e : j = k
    · subst e
      have h2' : (w.setCell ⟨G, j * 2, none⟩ (.int .i64 (f j))).cell? ⟨G, j * 2 + 1, none⟩ = some (.int .i64 (upto j g j)) := by
        rw [World.cell?_setCell_other (h := by intro e2; injection e2 with _ e3; omega)]; exact h2
      rw [World.cell?_setCell_same (h := h2')]
      unfold upto; rw [if_pos (by omega)]
    · rw [World.cell?_setCell_other (h := by intro e2; injection e2 with _ e3; omega), World.cell?_setCell_other (h := by intro e2; injection e2 with _ e3; omega), h2]
      unfold upto; congr 2; by_cases q : j < k
      · rw [if_pos q, if_pos (by omega)]
      · rw [if_neg q, if_neg (by omega)]
theorem PC.all {w : World} {G n : Nat} {f g : Nat → Int} (h : PC w G n (upto n f) (upto n g)) : PC w G n f g := by
  intro j hj
  have := h j hj
  unfold upto at this
  simpa [hj] using this
/-- the zeros that make lays, in pairs -/
theorem pairs_zero (w : World) (t : TypeId) (n : Nat) (f g : Nat → Int) : PC (w.alloc (.cells (madeCells #[.int .i64 0, .int .i64 0] (n * 2)) t)) w.heap.size n (upto 0 f) (upto 0 g) := by
  intro j hj
  have key : ∀ i, i < n * 2 → (w.alloc (.cells (madeCells #[.int .i64 0, .int .i64 0] (n * 2)) t)).cell? ⟨w.heap.size, i, none⟩ = some (.int .i64 0) := by
    intro i hi
    rw [World.cell?_alloc_new]
    have h2 : i % 2 = 0 ∨ i % 2 = 1 := by omega
    simp only [madeCells, Array.getElem?_map, Array.getElem?_range]
    rw [if_pos hi]
    rcases h2 with h2 | h2 <;> simp [h2]
  refine ⟨key _ (by omega), key _ (by omega), World.frozen?_alloc_new w _ t _, World.frozen?_alloc_new w _ t _⟩
theorem make_pairs {P : Program} (t e : TypeId) (i : TypeInfo) (ht : P.underlying t = some (.slice e)) (hi : P.info? e = some i) (hz : i.zero = some (.agg #[.int .i64 0, .int .i64 0])) (h1 : i.size = 2) (h8 : i.bytes = 16)
    (n : Nat) (hn : n ≤ 1099511627776) (w : World) :
    (Instr.makeSlice t (.int .i64 (n : Int)) (.int .i64 (n : Int))).run P w = .ok (.slice (some ⟨w.heap.size, 0, none⟩) n n) (w.alloc (.cells (madeCells #[.int .i64 0, .int .i64 0] (n * 2)) e)) := by
  have hr := run_make (P := P) w t e i (.agg #[.int .i64 0, .int .i64 0]) ht hi hz .i64 .i64 (n : Int) (n : Int) (by omega) (Int.le_refl _) (by rw [h8]; omega) (by omega)
  rw [hr]
  simp only [Int.toNat_natCast, h1]; rfl
/-- are all pairs points? -/
def allP (n : Nat) (f g : Nat → Int) : Bool := (List.range n).all (fun k => isPt 100000 (f k) (g k))
theorem allP_snoc {k : Nat} {f g : Nat → Int} (h : allP k f g = true) (hx : isPt 100000 (f k) (g k) = true) : allP (k + 1) f g = true := by
  unfold allP at *; rw [List.range_succ, List.all_append, h]; simpa using hx
theorem allP_out {k n : Nat} {f g : Nat → Int} (hk : k < n) (hx : isPt 100000 (f k) (g k) = false) : allP n f g = false := by
  unfold allP; rw [List.all_eq_false]; exact ⟨k, List.mem_range.2 hk, by rw [hx]; decide⟩
end Go.Proofs.Ytoccglmlpobeeaa
