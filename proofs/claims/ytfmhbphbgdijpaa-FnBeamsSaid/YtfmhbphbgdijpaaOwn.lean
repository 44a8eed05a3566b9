/- slices of int64 that a call makes -/
import Derived.Test.YtfmhbphbgdijpaaProg
import Derived.Test.YtfmhbphbgdijpaaLists
import Derived.Test.YtfmhbphbgdijpaaMem
import Derived.WalkKit
import Derived.WalkSpells
import Derived.WalkLawsBesides
import Derived.Handy
import Derived.Deep.RegionHeld3
import Derived.Lib.Hide
import Derived.Deep.AppendLies
import Derived.OwnWalk
set_option linter.unusedVariables false
set_option linter.unusedSimpArgs false
namespace Go.Proofs.Ytfmhbphbgdijpaa
open Go.RowKit

/-- a slice that was made in this call (its block is B or above) and holds ys -/
def OwnV (w : World) (B : Nat) (v : Value) (ys : List Int) : Prop := w.ownsRow B 2 1 v ys.length (ys.map (Value.int .i64))
/-- the same, by its cells: what a call hands back -/
def OwnR (w : World) (B : Nat) (A : Option Addr) (n c : Nat) (ys : List Int) : Prop :=
  ys.length = n ∧ n ≤ c ∧ ((A = none ∧ n = 0) ∨ ∃ g, A = some ⟨g, 0, none⟩ ∧ B ≤ g ∧ g < w.heap.size ∧ Cells w g 0 ys)
theorem OwnV.none (w : World) (B : Nat) : OwnV w B (.slice none 0 0) [] := ⟨rfl, .inl ⟨rfl, rfl⟩⟩
theorem OwnV.empty (w : World) (B : Nat) (h : B ≤ w.heap.size) : OwnV (w.alloc (.cells #[] 2)) B (.slice (some ⟨w.heap.size, 0, Option.none⟩) 0 0) [] :=
  ⟨rfl, .inr ⟨w.heap.size, 0, #[], rfl, h, heap_alloc_new w _, Nat.le_refl _, Nat.zero_le _, rfl, rfl⟩⟩
theorem OwnV.below {w w2 : World} {B : Nat} {v : Value} {ys : List Int} (h : OwnV w B v ys) (hb : Below w.heap.size w w2) : OwnV w2 B v ys := by
  refine ⟨h.1, ?_⟩
  rcases h.2 with hn | ⟨g, cap, cur, rfl, hB, hg, rest⟩
  · exact .inl hn
  · exact .inr ⟨g, cap, cur, rfl, hB, (hb.block g (Array.getElem?_eq_some_iff.1 hg).1).trans hg, rest⟩
theorem OwnV.alloc {w : World} {B : Nat} {v : Value} {ys : List Int} (h : OwnV w B v ys) (o : Obj) : OwnV (w.alloc o) B v ys := World.ownsRow.alloc h o
theorem OwnV.drewN {w : World} {B : Nat} {v : Value} {ys : List Int} (h : OwnV w B v ys) (m : Nat) : OwnV (w.drewN m) B v ys := h
theorem OwnV.R {w : World} {B : Nat} {v : Value} {ys : List Int} (h : OwnV w B v ys) : ∃ A c, v = .slice A ys.length c ∧ OwnR w B A ys.length c ys := by
  rcases h.2 with ⟨rfl, h0⟩ | ⟨g, cap, cur, rfl, hB, hg, hnc, hm, hs, ht⟩
  · exact ⟨Option.none, 0, by rw [h0], rfl, by omega, .inl ⟨rfl, h0⟩⟩
  · have h' : w.ownsRow B 2 1 (.slice (some ⟨g, 0, Option.none⟩) ys.length cap) ys.length (ys.map (Value.int .i64)) := h
    refine ⟨_, cap, rfl, rfl, hnc, .inr ⟨g, rfl, hB, (Array.getElem?_eq_some_iff.1 hg).1, fun k hk => ?_, fun k hk => h'.frozenAt _⟩⟩
    rw [Nat.zero_add, h'.cellAt k (by omega)]
    simp [hk]
theorem OwnR.rd {w : World} {B : Nat} {A : Option Addr} {n c : Nat} {ys : List Int} (h : OwnR w B A n c ys) : Rd w A ys := by
  rcases h.2.2 with ⟨rfl, h0⟩ | ⟨g, rfl, _, _, hc⟩
  · exact .inl (List.eq_nil_of_length_eq_zero (by rw [h.1, h0]))
  · exact hc.rd
theorem OwnR.below {w w2 : World} {B : Nat} {A : Option Addr} {n c : Nat} {ys : List Int} (h : OwnR w B A n c ys) (hb : Below w.heap.size w w2) : OwnR w2 B A n c ys := by
  refine ⟨h.1, h.2.1, ?_⟩
  rcases h.2.2 with h0 | ⟨g, rfl, hB, hg, hc⟩
  · exact .inl h0
  · exact .inr ⟨g, rfl, hB, Nat.lt_of_lt_of_le hg hb.size, hc.below hb⟩
/-- another block of one's own is written: this one stays -/
theorem OwnR.far {w w2 : World} {B g2 : Nat} {A : Option Addr} {n c : Nat} {ys : List Int} (h : OwnR w B A n c ys) (hb : w.grownBy w2 (some g2)) (hlt : g2 < B) : OwnR w2 B A n c ys := by
  refine ⟨h.1, h.2.1, ?_⟩
  rcases h.2.2 with h0 | ⟨g, rfl, hB, hg, hc⟩
  · exact .inl h0
  · exact .inr ⟨g, rfl, hB, Nat.lt_of_lt_of_le hg hb.size, hc.far hb (by omega)⟩
theorem OwnR.of_cells {w : World} {g : Nat} {ys : List Int} {n : Nat} (hn : ys.length = n) (hg : g < w.heap.size) (h : Cells w g 0 ys) : OwnR w g (some ⟨g, 0, Option.none⟩) n n ys :=
  ⟨hn, Nat.le_refl _, .inr ⟨g, rfl, Nat.le_refl _, hg, h⟩⟩
theorem info_app : (Try.prog.info? 2).map (fun i => (i.zero, i.size, i.bytes)) = some (some (.int .i64 0), 1, 8) := by kernel_rfl
/-- 'append' of one number to a slice of one's own -/
theorem app_int {ops : Array Oper} {rest : List Oper} {o : Oper} {a : Act} {Q : Exit → Act → World → Prop} {w : World} (hgd : o.guard = Option.none) (s x : Operand)
    (ho : o.op = .call { callee := .builtin .append, args := #[s, x], argTypes := #[22, 22] }) (B : Nat) (v : Value) (ys : List Int) (hs : a.eval s = v) (hown : OwnV w B v ys)
    (z : Int) (b : Nat) (hx : a.eval x = .slice (some ⟨b, 0, Option.none⟩) 1 1) (hb : w.cell? ⟨b, 0, Option.none⟩ = some (.int .i64 z)) (hl : ys.length ≤ 1099511627776) (hB : B ≤ w.heap.size)
    (h : ∀ g cap w', OwnV w' B (.slice (some ⟨g, 0, Option.none⟩) (ys.length + 1) cap) (ys ++ [z]) → Below B w w' → wpList Try.prog ops Q rest (a.put o.dst (.slice (some ⟨g, 0, Option.none⟩) (ys.length + 1) cap)) w') :
    wpList Try.prog ops Q (o :: rest) a w := by
  obtain ⟨i0, hi, hz0, hz1, hz2⟩ := info_parts info_app
  refine wpList_append_lies w hgd s x 22 ho B 2 i0 (.int .i64 0) 1 8 Try.underlying22 hi hz0 hz1 hz2 rfl (by decide) v ys.length (ys.map (Value.int .i64)) hs hown ⟨b, 0, Option.none⟩ 1 1 [.int .i64 z] hx rfl ?_ ?_ (by decide) (by unfold maxLen; omega) (by omega) hB _ rfl ?_
  · intro j u hj
    match j, hj with
    | 0, hj => simp at hj; subst hj; simpa [Addr.add] using hb
    | j + 1, hj => simp at hj
  · intro u hu; simp at hu; subst hu; rfl
  · intro g cap w' h2 hg hat hlt
    refine h g cap w' ?_ ?_
    · show w'.ownsRow B 2 1 _ (ys ++ [z]).length ((ys ++ [z]).map (Value.int .i64))
      rw [List.length_append, List.map_append]; exact h2
    · exact (Below.refl B w).grown hg hB (fun k hk => (World.ownsRow.lt hown k hk).1)
theorem cell_new1 (w : World) (z : Int) : (w.alloc (.cells #[Value.int .i64 z] 2)).cell? ⟨w.heap.size, 0, Option.none⟩ = some (.int .i64 z) := by
  rw [World.cell?_alloc_new]; rfl
end Go.Proofs.Ytfmhbphbgdijpaa
