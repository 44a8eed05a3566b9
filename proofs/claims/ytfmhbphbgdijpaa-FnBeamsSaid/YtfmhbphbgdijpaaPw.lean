/- rows in the making: append of a slice -/
import Derived.Test.YtfmhbphbgdijpaaMat
import Derived.Test.YtfmhbphbgdijpaaPlainW
import Derived.Deep.AppendLies
import Derived.Laws.CopyOwn
set_option linter.unusedVariables false
set_option linter.unusedSimpArgs false
namespace Go.Proofs.Ytfmhbphbgdijpaa
open Go.RowKit

/-- the first k rows are made: block H j holds row j; v is the slice of the rows -/
def PwM (w : World) (B : Nat) (v : Value) (k : Nat) (rows : Nat → List Int) (H : Nat → Nat) : Prop :=
  w.ownsRow B 22 1 v k ((List.range k).map (fun j => Value.slice (some ⟨H j, 0, none⟩) (rows j).length (rows j).length)) ∧ (∀ j, j < k → B ≤ H j ∧ H j < w.heap.size ∧ v.ownBlock ≠ some (H j) ∧ Cells w (H j) 0 (rows j)) ∧ ∀ i j, i < j → j < k → H i < H j
theorem PwM.nil (w : World) (B : Nat) (rows : Nat → List Int) (H : Nat → Nat) : PwM w B (.slice none 0 0) 0 rows H := ⟨World.ownsRow_nil _ _ _ _, fun j hj => absurd hj (Nat.not_lt_zero _), fun i j _ hj => absurd hj (Nat.not_lt_zero _)⟩
theorem PwM.empty (w : World) (B : Nat) (rows : Nat → List Int) (H : Nat → Nat) (hB : B ≤ w.heap.size) : PwM (w.alloc (.cells #[] 22)) B (.slice (some ⟨w.heap.size, 0, none⟩) 0 0) 0 rows H :=
  ⟨World.ownsRow_made w #[] 0 hB (Nat.zero_le _) rfl, fun j hj => absurd hj (Nat.not_lt_zero _), fun i j _ hj => absurd hj (Nat.not_lt_zero _)⟩
theorem ownsRow_below {w w2 : World} {B e n : Nat} {v : Value} {xs : List Value} (h : w.ownsRow B e 1 v n xs) (hb : Below w.heap.size w w2) : w2.ownsRow B e 1 v n xs := by
  refine ⟨h.1, ?_⟩
  rcases h.2 with hn | ⟨g, cap, cur, rfl, hB, hg, rest⟩
  · exact .inl hn
  · exact .inr ⟨g, cap, cur, rfl, hB, (hb.block g (Array.getElem?_eq_some_iff.1 hg).1).trans hg, rest⟩
/-- a row made behind the others is appended -/
theorem PwM.step {w w2 w3 : World} {B k g cap : Nat} {v : Value} {rows : Nat → List Int} {H : Nat → Nat} {o : Obj} (h : PwM w B v k rows H) (hB : B ≤ w.heap.size) (hb : Below w.heap.size w w2) (hs : w.heap.size < w2.heap.size) (hc : Cells w2 w.heap.size 0 (rows k))
    (ho : w3.ownsRow B 22 1 (.slice (some ⟨g, 0, none⟩) (k + 1) cap) (k + 1) ((List.range k).map (fun j => Value.slice (some ⟨H j, 0, none⟩) (rows j).length (rows j).length) ++ [.slice (some ⟨w.heap.size, 0, none⟩) (rows k).length (rows k).length]))
    (hg : (w2.alloc o).grownBy w3 v.ownBlock) (hat : v.ownBlock = some g ∨ g = (w2.alloc o).heap.size) :
    PwM w3 B (.slice (some ⟨g, 0, none⟩) (k + 1) cap) (k + 1) rows (fun j => if j = k then w.heap.size else H j) := by
  obtain ⟨h1, h2, h3⟩ := h
  have hlt := World.ownsRow.lt h1
  have hv : ∀ q, v.ownBlock = some q → q < w.heap.size := fun q hq => (hlt q hq).2
  have hgn : g < w.heap.size ∨ g = w2.heap.size + 1 := by
    rcases hat with hat | hat
    · exact .inl (hv g hat)
    · right; simpa using hat
  have hsz3 : w2.heap.size < w3.heap.size := by have := hg.size; simp at this; omega
  have hba : Below w2.heap.size w2 (w2.alloc o) := Below.alloc (Below.refl _ _) (Nat.le_refl _) _
  refine ⟨?_, fun j hj => ?_, fun i j hij hj => ?_⟩
  · have e : (List.range (k + 1)).map (fun j => Value.slice (some ⟨if j = k then w.heap.size else H j, 0, none⟩) (rows j).length (rows j).length) = (List.range k).map (fun j => Value.slice (some ⟨H j, 0, none⟩) (rows j).length (rows j).length) ++ [.slice (some ⟨w.heap.size, 0, none⟩) (rows k).length (rows k).length] := by
      rw [List.range_succ, List.map_append]
      congr 1
      · apply List.map_congr_left
        intro j hj
        rw [if_neg (by have := List.mem_range.1 hj; omega)]
      · simp
    rw [e]; exact ho
  · dsimp only
    by_cases e : j = k
    · subst e
      rw [if_pos rfl]
      refine ⟨hB, by omega, fun e2 => ?_, ?_⟩
      · simp [Value.ownBlock] at e2; omega
      · have hc2 := hc.below hba
        refine ⟨fun i hi => hg.cell (hc2.1 i hi) (fun e3 => ?_), fun i hi => ?_⟩
        · have := hv _ e3.symm; dsimp only at this; omega
        · exact (World.frozen?_of_block (w := w2.alloc o) (hg.block _ (World.block_lt_of_cell? _ _ (hc2.1 i hi)) (fun e3 => by have := hv _ e3.symm; dsimp only at this; omega))).trans (hc2.2 i hi)
    · obtain ⟨q1, q2, q3, q4⟩ := h2 j (by omega)
      rw [if_neg e]
      refine ⟨q1, by omega, fun e2 => ?_, ?_⟩
      · simp [Value.ownBlock] at e2
        rcases hat with hat | hat
        · exact q3 (by rw [hat, e2])
        · simp only [World.size_alloc] at hat; omega
      · have hc2 := (q4.below hb).below hba
        refine ⟨fun i hi => hg.cell (hc2.1 i hi) (fun e3 => q3 e3.symm), fun i hi => ?_⟩
        exact (World.frozen?_of_block (w := w2.alloc o) (hg.block _ (World.block_lt_of_cell? _ _ (hc2.1 i hi)) (fun e3 => q3 e3.symm))).trans (hc2.2 i hi)
  · dsimp only
    by_cases e : j = k
    · subst e
      rw [if_pos rfl, if_neg (by omega)]
      exact (h2 i hij).2.1
    · rw [if_neg e, if_neg (by omega)]
      exact h3 i j hij (by omega)
theorem PwM.done {w : World} {B n : Nat} {v : Value} {rows : Nat → List Int} {H : Nat → Nat} {R : List (List Int)} (h : PwM w B v n rows H) (hn : R.length = n) (hr : ∀ j, j < n → R.getD j [] = rows j) (hm : ∀ j, j < n → (rows j).length ≤ 1048576) :
    ∃ A c, v = .slice A n c ∧ OwnM w B w.heap.size A n c R := by
  obtain ⟨h1, h2, h3⟩ := h
  rcases h1.2 with ⟨rfl, h0⟩ | ⟨g, cap, cur, rfl, hB, hg, hnc, hmx, hs, ht⟩
  · subst h0
    exact ⟨Option.none, 0, rfl, hn, Nat.le_refl _, Nat.le_refl _, .inl rfl⟩
  · refine ⟨_, cap, rfl, hn, hnc, Nat.le_refl _, .inr ⟨g, H, fun k => (rows k).length, rfl, hB, (Array.getElem?_eq_some_iff.1 hg).1, fun k hk => ?_, fun j k hjk hk => Nat.ne_of_lt (h3 j k hjk hk), fun k hk => ?_⟩⟩
    · obtain ⟨q1, q2, q3, q4⟩ := h2 k hk
      exact ⟨q1, q2, fun e => q3 (by rw [e]; rfl)⟩
    · obtain ⟨q1, q2, q3, q4⟩ := h2 k hk
      simp only [hr k hk]
      refine ⟨?_, Nat.le_refl _, hm k hk, q2, q4⟩
      rw [World.ownsRow.cellAt h1 k (by omega)]
      simp [hk]
theorem PwM.below {w w2 : World} {B k : Nat} {v : Value} {rows : Nat → List Int} {H : Nat → Nat} (h : PwM w B v k rows H) (hb : Below w.heap.size w w2) : PwM w2 B v k rows H :=
  ⟨ownsRow_below h.1 hb, fun j hj => by obtain ⟨q1, q2, q3, q4⟩ := h.2.1 j hj; exact ⟨q1, Nat.lt_of_lt_of_le q2 hb.size, q3, q4.below hb⟩, h.2.2⟩
/-- 'append' of one slice to a slice of slices of one's own -/
theorem app_sl {ops : Array Oper} {rest : List Oper} {o : Oper} {a : Act} {Q : Exit → Act → World → Prop} {w : World} (hgd : o.guard = Option.none) (s x : Operand)
    (ho : o.op = .call { callee := .builtin .append, args := #[s, x], argTypes := #[28, 28] }) (B : Nat) (v : Value) (n : Nat) (xs : List Value) (hs : a.eval s = v) (hown : w.ownsRow B 22 1 v n xs)
    (A : Option Addr) (p c : Nat) (b : Nat) (hx : a.eval x = .slice (some ⟨b, 0, Option.none⟩) 1 1) (hb : w.cell? ⟨b, 0, Option.none⟩ = some (.slice A p c)) (hl : n ≤ 1099511627776) (hB : B ≤ w.heap.size)
    (h : ∀ g cap w', w'.ownsRow B 22 1 (.slice (some ⟨g, 0, Option.none⟩) (n + 1) cap) (n + 1) (xs ++ [.slice A p c]) → w.grownBy w' v.ownBlock → (v.ownBlock = some g ∨ g = w.heap.size) → wpList Try.prog ops Q rest (a.put o.dst (.slice (some ⟨g, 0, Option.none⟩) (n + 1) cap)) w') :
    wpList Try.prog ops Q (o :: rest) a w := by
  obtain ⟨i0, hi, hz0, hz1, hz2⟩ := info_parts info_ss
  refine wpList_append_lies w hgd s x 28 ho B 22 i0 (.slice none 0 0) 1 24 Try.underlying28 hi hz0 hz1 hz2 rfl (by decide) v n xs hs hown ⟨b, 0, Option.none⟩ 1 1 [.slice A p c] hx rfl ?_ ?_ (by decide) (by unfold maxLen; omega) (by omega) hB _ rfl ?_
  · intro j u hj
    match j, hj with
    | 0, hj => simp at hj; subst hj; simpa [Addr.add] using hb
    | j + 1, hj => simp at hj
  · intro u hu; simp at hu; subst hu; rfl
  · intro g cap w' h2 hg hat hlt
    exact h g cap w' h2 hg hat
theorem cell_sl (w : World) (v : Value) : (w.alloc (.cells #[v] 22)).cell? ⟨w.heap.size, 0, Option.none⟩ = some v := by
  rw [World.cell?_alloc_new]; rfl
theorem Cells.of_heap {w : World} {g : Nat} {xs : List Int} {t : TypeId} (h : w.heap[g]? = some (.cells (xs.map (Value.int .i64)).toArray t (0, 0))) : Cells w g 0 xs := by
  have hcell : ∀ k, k < xs.length → w.cell? ⟨g, 0 + k, none⟩ = some (.int .i64 (xs.getD k 0)) := fun k hk => by
    rw [Nat.zero_add]
    simp [World.cell?, h, hk]
  refine ⟨hcell, fun k hk => ?_⟩
  simp [World.frozen?, h]
theorem splice_row {ps : List Int} {L a p : Nat} (hp : ps.length = p) (h : a + p ≤ L) : splice (List.replicate L (Value.int .i64 0)) a (ps.map (Value.int .i64)) = (pwRow ps L a).map (Value.int .i64) := by
  rw [← pwRow_splice hp h]
  unfold splice
  simp [hp]
end Go.Proofs.Ytfmhbphbgdijpaa
