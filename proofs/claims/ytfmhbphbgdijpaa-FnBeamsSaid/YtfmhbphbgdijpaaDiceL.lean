/- dice and a list in the making -/
import Derived.Test.YtfmhbphbgdijpaaDice
import Derived.Test.YtfmhbphbgdijpaaDrW4
import Derived.Test.YtfmhbphbgdijpaaPw
set_option linter.unusedVariables false
set_option linter.unusedSimpArgs false
namespace Go.Proofs.Ytfmhbphbgdijpaa
open Go.RowKit

theorem Cells.gs {s : Nat} {w w2 : World} {g : Nat} {xs : List Int} (h : Cells w g 0 xs) (hg : Gs s w w2) (hne : g ≠ s) : Cells w2 g 0 xs :=
  ⟨fun k hk => hg.cell2 (h.1 k hk) hne, fun k hk => hg.frozen2 (h.1 k hk) hne (h.2 k hk)⟩
/-- 'append' of one number, and where the new slice lies -/
theorem app_lies {ops : Array Oper} {rest : List Oper} {o : Oper} {a : Act} {Q : Exit → Act → World → Prop} {w : World} (hgd : o.guard = Option.none) (s x : Operand)
    (ho : o.op = .call { callee := .builtin .append, args := #[s, x], argTypes := #[22, 22] }) (B : Nat) (v : Value) (ys : List Int) (hs : a.eval s = v) (hown : OwnV w B v ys)
    (z : Int) (b : Nat) (hx : a.eval x = .slice (some ⟨b, 0, Option.none⟩) 1 1) (hb : w.cell? ⟨b, 0, Option.none⟩ = some (.int .i64 z)) (hl : ys.length ≤ 1099511627776) (hB : B ≤ w.heap.size)
    (h : ∀ g cap w', OwnV w' B (.slice (some ⟨g, 0, Option.none⟩) (ys.length + 1) cap) (ys ++ [z]) → w.grownBy w' v.ownBlock → (v.ownBlock = some g ∨ g = w.heap.size) → wpList Try.prog ops Q rest (a.put o.dst (.slice (some ⟨g, 0, Option.none⟩) (ys.length + 1) cap)) w') :
    wpList Try.prog ops Q (o :: rest) a w := by
  obtain ⟨i0, hi, hz0, hz1, hz2⟩ := info_parts info_app
  refine wpList_append_lies w hgd s x 22 ho B 2 i0 (.int .i64 0) 1 8 Try.underlying22 hi hz0 hz1 hz2 rfl (by decide) v ys.length (ys.map (Value.int .i64)) hs hown ⟨b, 0, Option.none⟩ 1 1 [.int .i64 z] hx rfl ?_ ?_ (by decide) (by unfold maxLen; omega) (by omega) hB _ rfl ?_
  · intro j u hj
    match j, hj with
    | 0, hj => simp at hj; subst hj; simpa [Addr.add] using hb
    | j + 1, hj => simp at hj
  · intro u hu; simp at hu; subst hu; rfl
  · intro g cap w' h2 hg hat hlt
    refine h g cap w' ?_ hg hat
    show w'.ownsRow B 2 1 _ (ys ++ [z]).length ((ys ++ [z]).map (Value.int .i64))
    rw [List.length_append, List.map_append]; exact h2

theorem Dice.alloc {B : Nat} {w : World} {s : Nat} (h : Dice B w s) (o : Obj) : Dice B (w.alloc o) s := h.below (Below.alloc (Below.refl _ _) (Nat.le_refl _) _)
theorem cellG {w w2 : World} {q : Option Nat} {a : Addr} {v : Value} (hg : w.grownBy w2 q) (h : w.cell? a = some v) (hn : q ≠ some a.block) : w2.cell? a = some v :=
  (World.cell?_of_block (w := w) (hg.block a.block (World.block_lt_of_cell? w a h) (fun e => hn e.symm))).trans h
theorem frozenG {w w2 : World} {q : Option Nat} {a : Addr} {v : Value} (hg : w.grownBy w2 q) (h : w.cell? a = some v) (hf : w.frozen? a = false) (hn : q ≠ some a.block) : w2.frozen? a = false :=
  (World.frozen?_of_block (w := w) (hg.block a.block (World.block_lt_of_cell? w a h) (fun e => hn e.symm))).trans hf
/-- dice beside a slice that grows -/
theorem Dice.grown {B : Nat} {w w2 : World} {s : Nat} {q : Option Nat} (h : Dice B w s) (hg : w.grownBy w2 q) (hn : q ≠ some s) (hq : ∀ k, q = some k → B ≤ k) : Dice B w2 s := by
  obtain ⟨A, n, c, p, d, ⟨c0, c1, c2, z1, z2⟩, r1, r2, r5, r6⟩ := h
  refine ⟨A, n, c, p, d, ⟨cellG hg c0 hn, cellG hg c1 hn, cellG hg c2 hn, frozenG hg c1 z1 hn, frozenG hg c2 z2 hn⟩, r1, r2, ?_, r6⟩
  rcases Nat.eq_zero_or_pos n with h0 | h0
  · exact .inl h0
  rcases r5 with h | ⟨b, off, e, h⟩
  · exact .inl h
  · exact .inr ⟨b, off, e, fun k hk => by
      obtain ⟨x, hx, h2⟩ := h k hk
      exact ⟨x, cellG hg hx (fun e2 => by have := hq _ e2; have := r6 h0 b off e; dsimp only at *; omega), h2⟩⟩
/-- a list in the making that does not lie in block s -/
def Lst (s : Nat) (w : World) (B : Nat) (v : Value) (ys : List Int) : Prop := OwnV w B v ys ∧ v.ownBlock ≠ some s
theorem Lst.alloc {s : Nat} {w : World} {B : Nat} {v : Value} {ys : List Int} (h : Lst s w B v ys) (o : Obj) : Lst s (w.alloc o) B v ys := ⟨h.1.alloc o, h.2⟩
theorem Lst.gs {s : Nat} {w w2 : World} {B : Nat} {v : Value} {ys : List Int} (h : Lst s w B v ys) (hg : Gs s w w2) : Lst s w2 B v ys := by
  refine ⟨⟨h.1.1, ?_⟩, h.2⟩
  rcases h.1.2 with hn | ⟨g, cap, cur, rfl, hB, hg2, rest⟩
  · exact .inl hn
  · exact .inr ⟨g, cap, cur, rfl, hB, (hg.block g (Array.getElem?_eq_some_iff.1 hg2).1 (fun e => h.2 e)).trans hg2, rest⟩
theorem Lst.app {s : Nat} {w w2 : World} {B g cap : Nat} {v : Value} {ys : List Int} {z : Int} (h : Lst s w B v ys) (o : Obj) (hs : s < w.heap.size)
    (hown : OwnV w2 B (.slice (some ⟨g, 0, none⟩) (ys.length + 1) cap) (ys ++ [z])) (hat : v.ownBlock = some g ∨ g = (w.alloc o).heap.size) : Lst s w2 B (.slice (some ⟨g, 0, none⟩) (ys.length + 1) cap) (ys ++ [z]) := by
  refine ⟨hown, fun e => ?_⟩
  have e : g = s := by injection e
  rcases hat with h2 | h2
  · exact h.2 (by rw [h2, e])
  · simp only [World.size_alloc] at h2; omega
theorem Lst.bel {s : Nat} {w w2 : World} {B : Nat} {v : Value} {ys : List Int} (h : Lst s w B v ys) (o : Obj) (hB : B ≤ w.heap.size) (hg : (w.alloc o).grownBy w2 v.ownBlock) : Below B w w2 :=
  ((Below.refl B w).alloc hB o).grown hg (by simp only [World.size_alloc]; omega) (fun k hk => (World.ownsRow.lt h.1 k hk).1)
theorem Lst.from {s : Nat} {w : World} {B : Nat} {v : Value} {ys : List Int} (h : Lst s w B v ys) (k : Nat) (hk : v.ownBlock = some k) : B ≤ k := (World.ownsRow.lt h.1 k hk).1
end Go.Proofs.Ytfmhbphbgdijpaa
