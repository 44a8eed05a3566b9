/- slices of int64 in memory -/
import Derived.Test.YtoccglmlpobeeaaBase
import Derived.Test.YtoccglmlpobeeaaPlain3
import Derived.Laws.MakeOwn
import Derived.Laws.OwnMore
import Derived.Deep.Draws
set_option linter.unusedVariables false
set_option linter.unusedSimpArgs false
namespace Go.Proofs.Ytoccglmlpobeeaa
open Go.RowKit

/-- a slice of int64 that reads as a list -/
def Rd (w : World) (A : Option Addr) (xs : List Int) : Prop :=
  xs = [] ∨ ∃ b off, A = some ⟨b, off, none⟩ ∧ ∀ k, k < xs.length → w.cell? ⟨b, off + k, none⟩ = some (.int .i64 (xs.getD k 0))
theorem Rd.nil (w : World) (A : Option Addr) : Rd w A [] := .inl rfl
theorem Rd.below {w w2 : World} {A : Option Addr} {xs : List Int} (h : Rd w A xs) (hb : Below w.heap.size w w2) : Rd w2 A xs := by
  rcases h with h | ⟨b, off, e, h⟩
  · exact .inl h
  · exact .inr ⟨b, off, e, fun k hk => later hb (h k hk)⟩
theorem Rd.of_eq {w w2 : World} {A : Option Addr} {xs : List Int} (h : Rd w A xs) (hb : ∀ a v, w.cell? a = some v → w2.cell? a = some v) : Rd w2 A xs := by
  rcases h with h | ⟨b, off, e, h⟩
  · exact .inl h
  · exact .inr ⟨b, off, e, fun k hk => hb _ _ (h k hk)⟩
/-- a row of numbers in a block of one's own: its cells are known and may be written -/
def Cells (w : World) (g off : Nat) (xs : List Int) : Prop :=
  (∀ k, k < xs.length → w.cell? ⟨g, off + k, none⟩ = some (.int .i64 (xs.getD k 0))) ∧ ∀ k, k < xs.length → w.frozen? ⟨g, off + k, none⟩ = false
theorem Cells.rd {w : World} {g off : Nat} {xs : List Int} (h : Cells w g off xs) : Rd w (some ⟨g, off, none⟩) xs := .inr ⟨g, off, rfl, h.1⟩
theorem Cells.below {w w2 : World} {g off : Nat} {xs : List Int} (h : Cells w g off xs) (hb : Below w.heap.size w w2) : Cells w2 g off xs :=
  ⟨fun k hk => later hb (h.1 k hk), fun k hk => laterF hb (h.1 k hk) (h.2 k hk)⟩
theorem Cells.far {w w2 : World} {g g2 off : Nat} {xs : List Int} (h : Cells w g off xs) (hb : w.grownBy w2 (some g2)) (hne : g ≠ g2) : Cells w2 g off xs := by
  refine ⟨fun k hk => ?_, fun k hk => ?_⟩
  · have hlt := World.block_lt_of_cell? w _ (h.1 k hk)
    exact (World.cell?_of_block (w := w) (hb.block g hlt (fun e => hne (by injection e)))).trans (h.1 k hk)
  · have hlt := World.block_lt_of_cell? w _ (h.1 k hk)
    exact (World.frozen?_of_block (w := w) (hb.block g hlt (fun e => hne (by injection e)))).trans (h.2 k hk)
theorem Cells.nil (w : World) (g off : Nat) : Cells w g off [] := ⟨fun k hk => absurd hk (Nat.not_lt_zero _), fun k hk => absurd hk (Nat.not_lt_zero _)⟩
theorem Cells.lt {w : World} {g off : Nat} {xs : List Int} (h : Cells w g off xs) (hx : 0 < xs.length) : g < w.heap.size := World.block_lt_of_cell? w _ (h.1 0 hx)
/-- one cell of a row written -/
theorem Cells.put {w : World} {g off : Nat} {xs : List Int} (h : Cells w g off xs) (k : Nat) (x : Int) (hk : k < xs.length) : Cells (w.setCell ⟨g, off + k, none⟩ (.int .i64 x)) g off (xs.set k x) := by
  refine ⟨fun i hi => ?_, fun i hi => ?_⟩
  · rw [List.length_set] at hi
    by_cases e : i = k
    · subst e
      rw [World.cell?_setCell_same (h := h.1 i hi)]
      simp [hi]
    · rw [World.cell?_setCell_other (h := by intro e2; injection e2 with _ e3; omega), h.1 i hi]
      simp [List.getElem?_set, Ne.symm e]
  · rw [List.length_set] at hi
    rw [World.frozen?_setCell]
    exact h.2 i hi
theorem size_drewN (w : World) (n : Nat) : (w.drewN n).heap.size = w.heap.size := rfl
theorem below_drewN {B : Nat} {a w : World} (h : Below B a w) (n : Nat) : Below B a (w.drewN n) := ⟨h.os, h.tape, h.output, h.size, h.block⟩
/-- the zeros that make lays -/
def zeros (n : Nat) : Array Value := (List.replicate n (Value.int .i64 0)).toArray
theorem zeros_cells (w : World) (t : TypeId) (n : Nat) : Cells (w.alloc (.cells (zeros n) t)) w.heap.size 0 (List.replicate n 0) := by
  refine ⟨fun k hk => ?_, fun k hk => ?_⟩
  · rw [List.length_replicate] at hk
    rw [World.cell?_alloc_new]
    simp [zeros, hk]
  · exact World.frozen?_alloc_new w _ t _
theorem make_zeros {P : Program} (t e : TypeId) (i : TypeInfo) (ht : P.underlying t = some (.slice e)) (hi : P.info? e = some i) (hz : i.zero = some (.int .i64 0)) (h1 : i.size = 1) (h8 : i.bytes = 8)
    (n : Nat) (hn : n ≤ 1099511627776) (w : World) :
    (Instr.makeSlice t (.int .i64 (n : Int)) (.int .i64 (n : Int))).run P w = .ok (.slice (some ⟨w.heap.size, 0, none⟩) n n) (w.alloc (.cells (zeros n) e)) := by
  have hr := run_make (P := P) w t e i (.int .i64 0) ht hi hz .i64 .i64 (n : Int) (n : Int) (by omega) (Int.le_refl _) (by rw [h8]; omega) (by omega)
  rw [hr]
  simp only [Int.toNat_natCast, h1, Nat.mul_one]
  congr 3
  show madeCells #[.int .i64 0] n = _
  rw [← Array.toArray_toList (xs := madeCells _ _), toList_madeCells_one]
  rfl
end Go.Proofs.Ytoccglmlpobeeaa
