/- cells that a call keeps -/
import Derived.WalkKit
import Derived.WalkSpells
set_option linter.unusedVariables false
set_option linter.unusedSimpArgs false
namespace Go.Proofs.Ytoccglmlpobeeaa
open Go.RowKit

theorem later {w w2 : World} {a : Addr} {v : Value} (hb : Below w.heap.size w w2) (h : w.cell? a = some v) : w2.cell? a = some v :=
  (hb.cell (World.block_lt_of_cell? w a h)).trans h
theorem laterF {w w2 : World} {a : Addr} {v : Value} (hb : Below w.heap.size w w2) (h : w.cell? a = some v) (hf : w.frozen? a = false) : w2.frozen? a = false :=
  (hb.frozen (World.block_lt_of_cell? w a h)).trans hf
theorem keep_2_0 {B : Nat} {W w w2 : World} {a0 a1 : Addr} {v0 v1 : Value} (hb : Below w.heap.size w w2) (h : w.cell? a0 = some v0 ∧ w.cell? a1 = some v1 ∧ B ≤ w.heap.size ∧ Below B W w) : w2.cell? a0 = some v0 ∧ w2.cell? a1 = some v1 ∧ B ≤ w2.heap.size ∧ Below B W w2 := by
  obtain ⟨h0, h1, h2, h3⟩ := h
  exact ⟨later hb h0, later hb h1, Nat.le_trans h2 hb.size, h3.trans (hb.mono h2)⟩
theorem keep_5_0 {B : Nat} {W w w2 : World} {a0 a1 a2 a3 a4 : Addr} {v0 v1 v2 v3 v4 : Value} (hb : Below w.heap.size w w2) (h : w.cell? a0 = some v0 ∧ w.cell? a1 = some v1 ∧ w.cell? a2 = some v2 ∧ w.cell? a3 = some v3 ∧ w.cell? a4 = some v4 ∧ B ≤ w.heap.size ∧ Below B W w) : w2.cell? a0 = some v0 ∧ w2.cell? a1 = some v1 ∧ w2.cell? a2 = some v2 ∧ w2.cell? a3 = some v3 ∧ w2.cell? a4 = some v4 ∧ B ≤ w2.heap.size ∧ Below B W w2 := by
  obtain ⟨h0, h1, h2, h3, h4, h5, h6⟩ := h
  exact ⟨later hb h0, later hb h1, later hb h2, later hb h3, later hb h4, Nat.le_trans h5 hb.size, h6.trans (hb.mono h5)⟩
theorem keep_6_0 {B : Nat} {W w w2 : World} {a0 a1 a2 a3 a4 a5 : Addr} {v0 v1 v2 v3 v4 v5 : Value} (hb : Below w.heap.size w w2) (h : w.cell? a0 = some v0 ∧ w.cell? a1 = some v1 ∧ w.cell? a2 = some v2 ∧ w.cell? a3 = some v3 ∧ w.cell? a4 = some v4 ∧ w.cell? a5 = some v5 ∧ B ≤ w.heap.size ∧ Below B W w) : w2.cell? a0 = some v0 ∧ w2.cell? a1 = some v1 ∧ w2.cell? a2 = some v2 ∧ w2.cell? a3 = some v3 ∧ w2.cell? a4 = some v4 ∧ w2.cell? a5 = some v5 ∧ B ≤ w2.heap.size ∧ Below B W w2 := by
  obtain ⟨h0, h1, h2, h3, h4, h5, h6, h7⟩ := h
  exact ⟨later hb h0, later hb h1, later hb h2, later hb h3, later hb h4, later hb h5, Nat.le_trans h6 hb.size, h7.trans (hb.mono h6)⟩
theorem keep_7_0 {B : Nat} {W w w2 : World} {a0 a1 a2 a3 a4 a5 a6 : Addr} {v0 v1 v2 v3 v4 v5 v6 : Value} (hb : Below w.heap.size w w2) (h : w.cell? a0 = some v0 ∧ w.cell? a1 = some v1 ∧ w.cell? a2 = some v2 ∧ w.cell? a3 = some v3 ∧ w.cell? a4 = some v4 ∧ w.cell? a5 = some v5 ∧ w.cell? a6 = some v6 ∧ B ≤ w.heap.size ∧ Below B W w) : w2.cell? a0 = some v0 ∧ w2.cell? a1 = some v1 ∧ w2.cell? a2 = some v2 ∧ w2.cell? a3 = some v3 ∧ w2.cell? a4 = some v4 ∧ w2.cell? a5 = some v5 ∧ w2.cell? a6 = some v6 ∧ B ≤ w2.heap.size ∧ Below B W w2 := by
  obtain ⟨h0, h1, h2, h3, h4, h5, h6, h7, h8⟩ := h
  exact ⟨later hb h0, later hb h1, later hb h2, later hb h3, later hb h4, later hb h5, later hb h6, Nat.le_trans h7 hb.size, h8.trans (hb.mono h7)⟩
theorem keep_10_0 {B : Nat} {W w w2 : World} {a0 a1 a2 a3 a4 a5 a6 a7 a8 a9 : Addr} {v0 v1 v2 v3 v4 v5 v6 v7 v8 v9 : Value} (hb : Below w.heap.size w w2) (h : w.cell? a0 = some v0 ∧ w.cell? a1 = some v1 ∧ w.cell? a2 = some v2 ∧ w.cell? a3 = some v3 ∧ w.cell? a4 = some v4 ∧ w.cell? a5 = some v5 ∧ w.cell? a6 = some v6 ∧ w.cell? a7 = some v7 ∧ w.cell? a8 = some v8 ∧ w.cell? a9 = some v9 ∧ B ≤ w.heap.size ∧ Below B W w) : w2.cell? a0 = some v0 ∧ w2.cell? a1 = some v1 ∧ w2.cell? a2 = some v2 ∧ w2.cell? a3 = some v3 ∧ w2.cell? a4 = some v4 ∧ w2.cell? a5 = some v5 ∧ w2.cell? a6 = some v6 ∧ w2.cell? a7 = some v7 ∧ w2.cell? a8 = some v8 ∧ w2.cell? a9 = some v9 ∧ B ≤ w2.heap.size ∧ Below B W w2 := by
  obtain ⟨h0, h1, h2, h3, h4, h5, h6, h7, h8, h9, h10, h11⟩ := h
  exact ⟨later hb h0, later hb h1, later hb h2, later hb h3, later hb h4, later hb h5, later hb h6, later hb h7, later hb h8, later hb h9, Nat.le_trans h10 hb.size, h11.trans (hb.mono h10)⟩

end Go.Proofs.Ytoccglmlpobeeaa
