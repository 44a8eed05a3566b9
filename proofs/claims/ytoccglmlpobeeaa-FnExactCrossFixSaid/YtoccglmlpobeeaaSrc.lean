/- a source of numbers in memory; slices of bytes -/
import Derived.Test.YtoccglmlpobeeaaMem
set_option linter.unusedVariables false
set_option linter.unusedSimpArgs false
namespace Go.Proofs.Ytoccglmlpobeeaa
open Go.RowKit

/-- a slice of n bytes that can be read -/
def RdB (w : World) (A : Option Addr) (n : Nat) : Prop := n = 0 ∨ ∃ b off, A = some ⟨b, off, none⟩ ∧ ∀ k, k < n → ∃ x : Int, w.cell? ⟨b, off + k, none⟩ = some (.int .u8 x) ∧ 0 ≤ x ∧ x ≤ 255
/-- new blocks, and writes to block s alone -/
def Gs (s : Nat) (w w2 : World) : Prop := w.grownBy w2 (some s)
theorem Gs.refl (s : Nat) (w : World) : Gs s w w := World.grownBy.refl _ _
theorem Gs.of_below {s : Nat} {w w2 : World} (h : Below w.heap.size w w2) : Gs s w w2 := ⟨h.os, h.tape, h.output, h.size, fun k hk _ => h.block k hk⟩
theorem Gs.trans {s : Nat} {a b c : World} (h : Gs s a b) (k : Gs s b c) : Gs s a c :=
  ⟨k.os.trans h.os, k.tape.trans h.tape, k.output.trans h.output, Nat.le_trans h.size k.size, fun i hi hn => (k.block i (Nat.lt_of_lt_of_le hi h.size) hn).trans (h.block i hi hn)⟩
theorem Gs.set {s o : Nat} {w w2 : World} {v : Value} (h : Gs s w w2) : Gs s w (w2.setCell ⟨s, o, none⟩ v) :=
  ⟨h.os, h.tape, h.output, by simpa [World.setCell] using h.size, fun k hk hne => (Below.heap_setCell w2 _ v k (fun e => hne (by rw [e]))).trans (h.block k hk hne)⟩
/-- a store into a block that is new -/
theorem Gs.set_new {s g o : Nat} {w w2 : World} {v : Value} (h : Gs s w w2) (hg : w.heap.size ≤ g) : Gs s w (w2.setCell ⟨g, o, none⟩ v) :=
  ⟨h.os, h.tape, h.output, by simpa [World.setCell] using h.size, fun k hk hne => (Below.heap_setCell w2 _ v k (by show k ≠ g; omega)).trans (h.block k hk hne)⟩
theorem Gs.drewN {s : Nat} {w w2 : World} (h : Gs s w w2) (n : Nat) : Gs s w (w2.drewN n) := ⟨h.os, h.tape, h.output, h.size, h.block⟩
theorem Gs.drew {s : Nat} {w w2 : World} (h : Gs s w w2) : Gs s w w2.drew := ⟨h.os, h.tape, h.output, h.size, h.block⟩
theorem Gs.alloc {s : Nat} {w w2 : World} (h : Gs s w w2) (o : Obj) : Gs s w (w2.alloc o) := h.trans (World.grownBy_alloc w2 o _)
theorem Gs.cell2 {s : Nat} {w w2 : World} {a : Addr} {v : Value} (h : Gs s w w2) (hc : w.cell? a = some v) (hne : a.block ≠ s) : w2.cell? a = some v :=
  (World.cell?_of_block (w := w) (h.block a.block (World.block_lt_of_cell? w a hc) (fun e => hne (by injection e)))).trans hc
theorem Gs.frozen2 {s : Nat} {w w2 : World} {a : Addr} {v : Value} (h : Gs s w w2) (hc : w.cell? a = some v) (hne : a.block ≠ s) (hf : w.frozen? a = false) : w2.frozen? a = false :=
  (World.frozen?_of_block (w := w) (h.block a.block (World.block_lt_of_cell? w a hc) (fun e => hne (by injection e)))).trans hf
theorem Gs.to_below {s : Nat} {w w2 : World} {B : Nat} (h : Gs s w w2) (hs : B ≤ s) (hB : B ≤ w.heap.size) : Below B w w2 :=
  ⟨h.os, h.tape, h.output, h.size, fun k hk => h.block k (Nat.lt_of_lt_of_le hk hB) (fun e => by injection e with e; omega)⟩
theorem RdB.g {s : Nat} {w w2 : World} {A : Option Addr} {n : Nat} (h : RdB w A n) (hg : Gs s w w2) (hA : 0 < n → ∀ b off, A = some ⟨b, off, none⟩ → b < s) : RdB w2 A n := by
  rcases Nat.eq_zero_or_pos n with h0 | h0
  · exact .inl h0
  rcases h with h | ⟨b, off, e, h⟩
  · exact .inl h
  · exact .inr ⟨b, off, e, fun k hk => by
      obtain ⟨x, hx, h2⟩ := h k hk
      exact ⟨x, hg.cell2 hx (Nat.ne_of_lt (hA h0 b off e)), h2⟩⟩
theorem RdB.below {w w2 : World} {A : Option Addr} {n : Nat} (h : RdB w A n) (hb : Below w.heap.size w w2) : RdB w2 A n := by
  rcases h with h | ⟨b, off, e, h⟩
  · exact .inl h
  · exact .inr ⟨b, off, e, fun k hk => by
      obtain ⟨x, hx, h2⟩ := h k hk
      exact ⟨x, later hb hx, h2⟩⟩
def SrcV (w : World) (s : Nat) (A : Option Addr) (n c p : Nat) (d : Int) : Prop :=
  w.cell? ⟨s, 0, none⟩ = some (.slice A n c) ∧ w.cell? ⟨s, 1, none⟩ = some (.int .i64 (p : Int)) ∧ w.cell? ⟨s, 2, none⟩ = some (.int .i64 d) ∧ w.frozen? ⟨s, 1, none⟩ = false ∧ w.frozen? ⟨s, 2, none⟩ = false
/-- block s is a source of numbers -/
def Src (w : World) (s : Nat) : Prop :=
  ∃ A n c p d, SrcV w s A n c p d ∧ n ≤ 4096 ∧ p ≤ n ∧ 0 ≤ d ∧ d < 2147483647 ∧ RdB w A n ∧ (0 < n → ∀ b off, A = some ⟨b, off, none⟩ → b < s)
theorem Src.lt {w : World} {s : Nat} (h : Src w s) : s < w.heap.size := by
  obtain ⟨A, n, c, p, d, ⟨c0, _⟩, _⟩ := h
  exact World.block_lt_of_cell? w _ c0
theorem Src.below {w w2 : World} {s : Nat} (h : Src w s) (hb : Below w.heap.size w w2) : Src w2 s := by
  obtain ⟨A, n, c, p, d, ⟨c0, c1, c2, z1, z2⟩, r1, r2, r3, r4, r5, r6⟩ := h
  exact ⟨A, n, c, p, d, ⟨later hb c0, later hb c1, later hb c2, laterF hb c1 z1, laterF hb c2 z2⟩, r1, r2, r3, r4, r5.below hb, r6⟩
theorem Src.drewN {w : World} {s : Nat} (h : Src w s) (m : Nat) : Src (w.drewN m) s := h.below ⟨rfl, rfl, rfl, Nat.le_refl _, fun _ _ => rfl⟩
theorem Src.set {w : World} {s g o : Nat} {v : Value} (h : Src w s) (hne : g ≠ s) (hA : s < g) : Src (w.setCell ⟨g, o, none⟩ v) s := by
  have hG : Gs g w (w.setCell ⟨g, o, none⟩ v) := Gs.set (Gs.refl _ _)
  obtain ⟨A, n, c, p, d, ⟨c0, c1, c2, z1, z2⟩, r1, r2, r3, r4, r5, r6⟩ := h
  exact ⟨A, n, c, p, d, ⟨hG.cell2 c0 (Ne.symm hne), hG.cell2 c1 (Ne.symm hne), hG.cell2 c2 (Ne.symm hne), hG.frozen2 c1 (Ne.symm hne) z1, hG.frozen2 c2 (Ne.symm hne) z2⟩, r1, r2, r3, r4, r5.g hG (fun h0 b off e => Nat.lt_trans (r6 h0 b off e) hA), r6⟩
theorem Src.alloc {w : World} {s : Nat} (h : Src w s) (o : Obj) : Src (w.alloc o) s := h.below (Below.alloc (Below.refl _ _) (Nat.le_refl _) _)
theorem Src.drew {w : World} {s : Nat} (h : Src w s) : Src w.drew s := h.below (Below.drew (Below.refl _ _))
def NextPost (s : Nat) (n : Int) (w : World) (en : Ending) (w9 : World) : Prop := ∃ x : Int, en = .returned (.int .i64 x) ∧ 0 ≤ x ∧ (x < n ∨ (n ≤ 1 ∧ x = 0)) ∧ Src w9 s ∧ Gs s w w9
theorem rem_rng {e n : Int} (h : 1 < n) : 0 ≤ e % n ∧ e % n < n := ⟨Int.emod_nonneg _ (by omega), Int.emod_lt_of_pos _ (by omega)⟩
theorem rem_seed (e : Int) : 0 ≤ e % 2147483647 ∧ e % 2147483647 < 2147483647 := by omega
end Go.Proofs.Ytoccglmlpobeeaa
