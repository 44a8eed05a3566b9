/- slices of slices of int64 in memory; blocks that a call has made, by intervals -/
import Derived.Test.YtfmhbphbgdijpaaOwn
import Derived.Test.YtfmhbphbgdijpaaMark
import Derived.Test.YtfmhbphbgdijpaaW2
set_option linter.unusedVariables false
set_option linter.unusedSimpArgs false
namespace Go.Proofs.Ytfmhbphbgdijpaa
open Go.RowKit

/-- a slice of slices of int64 that reads as rows -/
def RdM (w : World) (A : Option Addr) (rows : List (List Int)) : Prop :=
  rows = [] ∨ ∃ b off, A = some ⟨b, off, none⟩ ∧ ∀ k, k < rows.length → ∃ B m c, w.cell? ⟨b, off + k, none⟩ = some (.slice B m c) ∧ (rows.getD k []).length = m ∧ m ≤ c ∧ m ≤ 9223372036854775807 ∧ Rd w B (rows.getD k [])
theorem RdM.below {w w2 : World} {A : Option Addr} {rows : List (List Int)} (h : RdM w A rows) (hb : Below w.heap.size w w2) : RdM w2 A rows := by
  rcases h with h | ⟨b, off, e, h⟩
  · exact .inl h
  · exact .inr ⟨b, off, e, fun k hk => by
      obtain ⟨B, m, c, h1, h2, h3, h4, h5⟩ := h k hk
      exact ⟨B, m, c, later hb h1, h2, h3, h4, h5.below hb⟩⟩
theorem RdM.drewN {w : World} {A : Option Addr} {rows : List (List Int)} (h : RdM w A rows) (m : Nat) : RdM (w.drewN m) A rows := h.below (below_drewN (Below.refl _ _) _)
/-- new blocks; of the old ones those from B to U alone may have been written -/
structure Kept (B U : Nat) (w w2 : World) : Prop where
  os : w2.os = w.os
  tape : w2.tape = w.tape
  output : w2.output = w.output
  size : w.heap.size ≤ w2.heap.size
  block : ∀ k, k < w.heap.size → (k < B ∨ U ≤ k) → w2.heap[k]? = w.heap[k]?
theorem Kept.refl (B U : Nat) (w : World) : Kept B U w w := ⟨rfl, rfl, rfl, Nat.le_refl _, fun _ _ _ => rfl⟩
theorem Kept.trans {B U : Nat} {a b c : World} (h : Kept B U a b) (k : Kept B U b c) : Kept B U a c :=
  ⟨k.os.trans h.os, k.tape.trans h.tape, k.output.trans h.output, Nat.le_trans h.size k.size, fun i hi hx => (k.block i (Nat.lt_of_lt_of_le hi h.size) hx).trans (h.block i hi hx)⟩
theorem Kept.to_below {B U : Nat} {w w2 : World} (h : Kept B U w w2) {C : Nat} (hC : C ≤ B) (hs : C ≤ w.heap.size) : Below C w w2 :=
  ⟨h.os, h.tape, h.output, h.size, fun k hk => h.block k (Nat.lt_of_lt_of_le hk hs) (.inl (Nat.lt_of_lt_of_le hk hC))⟩
theorem Kept.of_grown {B U g : Nat} {w w2 : World} (h : w.grownBy w2 (some g)) (h1 : B ≤ g) (h2 : g < U) : Kept B U w w2 :=
  ⟨h.os, h.tape, h.output, h.size, fun k hk hx => h.block k hk (fun e => by injection e with e; omega)⟩
theorem Kept.cell {B U : Nat} {w w2 : World} {a : Addr} {v : Value} (h : Kept B U w w2) (hc : w.cell? a = some v) (hx : a.block < B ∨ U ≤ a.block) : w2.cell? a = some v :=
  (World.cell?_of_block (w := w) (h.block a.block (World.block_lt_of_cell? w a hc) hx)).trans hc
theorem Kept.frozen {B U : Nat} {w w2 : World} {a : Addr} {v : Value} (h : Kept B U w w2) (hc : w.cell? a = some v) (hx : a.block < B ∨ U ≤ a.block) (hf : w.frozen? a = false) : w2.frozen? a = false :=
  (World.frozen?_of_block (w := w) (h.block a.block (World.block_lt_of_cell? w a hc) hx)).trans hf
theorem Cells.kept {B U g off : Nat} {w w2 : World} {xs : List Int} (h : Cells w g off xs) (hb : Kept B U w w2) (hx : g < B ∨ U ≤ g) : Cells w2 g off xs :=
  ⟨fun k hk => hb.cell (h.1 k hk) hx, fun k hk => hb.frozen (h.1 k hk) hx (h.2 k hk)⟩
/-- a slice of one's own, its block between B and U -/
def OwnI (w : World) (B U : Nat) (A : Option Addr) (n c : Nat) (ys : List Int) : Prop := OwnR w B A n c ys ∧ U ≤ w.heap.size ∧ ∀ g, blk A = some g → g < U
theorem OwnI.of {w : World} {B : Nat} {A : Option Addr} {n c : Nat} {ys : List Int} (h : OwnR w B A n c ys) : OwnI w B w.heap.size A n c ys := by
  refine ⟨h, Nat.le_refl _, fun g hg => ?_⟩
  rcases h.2.2 with ⟨rfl, _⟩ | ⟨g2, rfl, _, hl, _⟩
  · cases hg
  · cases hg; exact hl
theorem OwnI.below {w w2 : World} {B U : Nat} {A : Option Addr} {n c : Nat} {ys : List Int} (h : OwnI w B U A n c ys) (hb : Below w.heap.size w w2) : OwnI w2 B U A n c ys :=
  ⟨h.1.below hb, Nat.le_trans h.2.1 hb.size, h.2.2⟩
theorem OwnI.kept {w w2 : World} {B U B2 U2 : Nat} {A : Option Addr} {n c : Nat} {ys : List Int} (h : OwnI w B U A n c ys) (hb : Kept B2 U2 w w2) (hx : U ≤ B2 ∨ U2 ≤ B) : OwnI w2 B U A n c ys := by
  refine ⟨⟨h.1.1, h.1.2.1, ?_⟩, Nat.le_trans h.2.1 hb.size, h.2.2⟩
  rcases h.1.2.2 with h0 | ⟨g, rfl, hB, hg, hc⟩
  · exact .inl h0
  · have hU := h.2.2 g rfl
    exact .inr ⟨g, rfl, hB, Nat.lt_of_lt_of_le hg hb.size, hc.kept hb (by omega)⟩
theorem OwnI.rd {w : World} {B U : Nat} {A : Option Addr} {n c : Nat} {ys : List Int} (h : OwnI w B U A n c ys) : Rd w A ys := h.1.rd
/-- the cells of rows of one's own -/
def MatV (w : World) (g : Nat) (H C : Nat → Nat) (n : Nat) (rows : Nat → List Int) : Prop :=
  ∀ k, k < n → w.cell? ⟨g, k, none⟩ = some (.slice (some ⟨H k, 0, none⟩) (rows k).length (C k)) ∧ (rows k).length ≤ C k ∧ (rows k).length ≤ 1048576 ∧ H k < w.heap.size ∧ Cells w (H k) 0 (rows k)
/-- rows of one's own, all blocks between B and U -/
def OwnM (w : World) (B U : Nat) (A : Option Addr) (n c : Nat) (rows : List (List Int)) : Prop :=
  rows.length = n ∧ n ≤ c ∧ U ≤ w.heap.size ∧ (n = 0 ∨ ∃ (g : Nat) (H C : Nat → Nat), A = some ⟨g, 0, none⟩ ∧ B ≤ g ∧ g < U ∧ (∀ k, k < n → B ≤ H k ∧ H k < U ∧ H k ≠ g) ∧ (∀ j k, j < k → k < n → H j ≠ H k) ∧ MatV w g H C n (fun k => rows.getD k []))
theorem MatV.below {w w2 : World} {g : Nat} {H C : Nat → Nat} {n : Nat} {rows : Nat → List Int} (h : MatV w g H C n rows) (hb : Below w.heap.size w w2) : MatV w2 g H C n rows := fun k hk => by
  obtain ⟨h1, h2, h3, h4, h5⟩ := h k hk
  exact ⟨later hb h1, h2, h3, Nat.lt_of_lt_of_le h4 hb.size, h5.below hb⟩
theorem MatV.kept {w w2 : World} {B U g : Nat} {H C : Nat → Nat} {n : Nat} {rows : Nat → List Int} (h : MatV w g H C n rows) (hb : Kept B U w w2) (hg : g < B ∨ U ≤ g) (hH : ∀ k, k < n → H k < B ∨ U ≤ H k) : MatV w2 g H C n rows := fun k hk => by
  obtain ⟨h1, h2, h3, h4, h5⟩ := h k hk
  exact ⟨hb.cell h1 hg, h2, h3, Nat.lt_of_lt_of_le h4 hb.size, h5.kept hb (hH k hk)⟩
theorem OwnM.below {w w2 : World} {B U : Nat} {A : Option Addr} {n c : Nat} {rows : List (List Int)} (h : OwnM w B U A n c rows) (hb : Below w.heap.size w w2) : OwnM w2 B U A n c rows := by
  obtain ⟨h1, h2, h3, h4⟩ := h
  refine ⟨h1, h2, Nat.le_trans h3 hb.size, ?_⟩
  rcases h4 with h4 | ⟨g, H, C, r1, r2, r3, r4, r5, r6⟩
  · exact .inl h4
  · exact .inr ⟨g, H, C, r1, r2, r3, r4, r5, r6.below hb⟩
theorem OwnM.kept {w w2 : World} {B U B2 U2 : Nat} {A : Option Addr} {n c : Nat} {rows : List (List Int)} (h : OwnM w B U A n c rows) (hb : Kept B2 U2 w w2) (hx : U ≤ B2 ∨ U2 ≤ B) : OwnM w2 B U A n c rows := by
  obtain ⟨h1, h2, h3, h4⟩ := h
  refine ⟨h1, h2, Nat.le_trans h3 hb.size, ?_⟩
  rcases h4 with h4 | ⟨g, H, C, r1, r2, r3, r4, r5, r6⟩
  · exact .inl h4
  · exact .inr ⟨g, H, C, r1, r2, r3, r4, r5, r6.kept hb (by omega) (fun k hk => by have := r4 k hk; omega)⟩
theorem OwnM.rdM {w : World} {B U : Nat} {A : Option Addr} {n c : Nat} {rows : List (List Int)} (h : OwnM w B U A n c rows) : RdM w A rows := by
  obtain ⟨h1, h2, h3, h4⟩ := h
  rcases h4 with h4 | ⟨g, H, C, r1, r2, r3, r4, r5, r6⟩
  · exact .inl (List.eq_nil_of_length_eq_zero (by omega))
  · refine .inr ⟨g, 0, r1, fun k hk => ?_⟩
    obtain ⟨q1, q2, q3, q4, q5⟩ := r6 k (by omega)
    have q3' : (rows.getD k []).length ≤ 1048576 := q3
    exact ⟨_, _, _, by rw [Nat.zero_add]; exact q1, rfl, q2, by omega, q5.rd⟩
theorem OwnM.row {w : World} {B U : Nat} {A : Option Addr} {n c : Nat} {rows : List (List Int)} (h : OwnM w B U A n c rows) {k : Nat} (hk : k < n) : (rows.getD k []).length ≤ 1048576 := by
  obtain ⟨h1, h2, h3, h4⟩ := h
  rcases h4 with h4 | ⟨g, H, C, r1, r2, r3, r4, r5, r6⟩
  · omega
  · exact (r6 k hk).2.2.1
theorem OwnM.nil {w : World} {B : Nat} {c : Nat} {A : Option Addr} : OwnM w B w.heap.size A 0 c [] := ⟨rfl, Nat.zero_le _, Nat.le_refl _, .inl rfl⟩
/-- how many numbers the first k rows hold -/
def totTo (rows : List (List Int)) : Nat → Nat
  | 0 => 0
  | k + 1 => totTo rows k + (rows.getD k []).length
def tot (rows : List (List Int)) : Nat := totTo rows rows.length
theorem totTo_bd {rows : List (List Int)} {n : Nat} (h : ∀ k, k < n → (rows.getD k []).length ≤ 1048576) (k : Nat) (hk : k ≤ n) : totTo rows k ≤ 1048576 * k := by
  induction k with
  | zero => simp [totTo]
  | succ k ih => have h1 := ih (by omega); have h2 := h k (by omega); simp only [totTo]; omega
theorem totTo_mono {rows : List (List Int)} (k j : Nat) (h : k ≤ j) : totTo rows k ≤ totTo rows j := by
  induction j with
  | zero => obtain rfl : k = 0 := by omega
            exact Nat.le_refl _
  | succ j ih =>
    by_cases e : k = j + 1
    · subst e; exact Nat.le_refl _
    · have := ih (by omega); simp only [totTo]; omega
theorem totTo_row {rows : List (List Int)} {k n : Nat} (h : k < n) : (rows.getD k []).length ≤ totTo rows n := by
  have h1 := totTo_mono (rows := rows) (k + 1) n h
  simp only [totTo] at h1; omega
/-- rows of numbers k, k + 1, .. -/
def iotaM (k : Int) (rows : List (List Int)) : List (List Int) := (List.range rows.length).map (fun j => iota (k + (totTo rows j : Nat)) (rows.getD j []).length)
def mixM (k : Int) (rows : List (List Int)) (i : Nat) : List (List Int) := (List.range rows.length).map (fun j => if j < i then iota (k + (totTo rows j : Nat)) (rows.getD j []).length else rows.getD j [])
theorem getD_range {α : Type} {d : α} {f : Nat → α} {n j : Nat} (h : j < n) : ((List.range n).map f).getD j d = f j := by simp [h]
theorem iotaM_at {k : Int} {rows : List (List Int)} {j : Nat} (h : j < rows.length) : (iotaM k rows).getD j [] = iota (k + (totTo rows j : Nat)) (rows.getD j []).length := getD_range h
theorem mixM_at {k : Int} {rows : List (List Int)} {i j : Nat} (h : j < rows.length) : (mixM k rows i).getD j [] = if j < i then iota (k + (totTo rows j : Nat)) (rows.getD j []).length else rows.getD j [] := getD_range h
theorem mixM_zero (k : Int) (rows : List (List Int)) : mixM k rows 0 = rows := by
  unfold mixM
  apply List.ext_getElem?
  intro i
  by_cases h : i < rows.length
  · simp [h]
  · simp [h]
theorem mixM_all {k : Int} {rows : List (List Int)} {n : Nat} (h : rows.length = n) : mixM k rows n = iotaM k rows := by
  unfold mixM iotaM
  apply List.map_congr_left
  intro j hj
  rw [if_pos (by have := List.mem_range.1 hj; omega)]
theorem iotaM_len (k : Int) (rows : List (List Int)) : (iotaM k rows).length = rows.length := by simp [iotaM]
theorem mixM_len (k : Int) (rows : List (List Int)) (i : Nat) : (mixM k rows i).length = rows.length := by simp [mixM]
theorem totTo_iotaM {k : Int} {rows : List (List Int)} (j : Nat) (h : j ≤ rows.length) : totTo (iotaM k rows) j = totTo rows j := by
  induction j with
  | zero => rfl
  | succ j ih => simp only [totTo]; rw [ih (by omega), iotaM_at (by omega), iota_len]
/-- the j-th row is written -/
theorem MatV.put {w w2 : World} {g B U : Nat} {H C : Nat → Nat} {n : Nat} {k : Int} {rows : List (List Int)} {j : Nat} (hn : rows.length = n) (hj : j < n) (h : MatV w g H C n (fun i => (mixM k rows j).getD i [])) (hg : ∀ i, i < n → H i ≠ g) (hH : ∀ i k, i < k → k < n → H i ≠ H k)
    (hb : w.grownBy w2 (some (H j))) (hc : Cells w2 (H j) 0 (iota (k + (totTo rows j : Nat)) (rows.getD j []).length)) : MatV w2 g H C n (fun i => (mixM k rows (j + 1)).getD i []) := by
  intro i hi
  obtain ⟨h1, h2, h3, h4, h5⟩ := h i hi
  simp only [mixM_at (show i < rows.length by omega)] at h1 h2 h3 h5 ⊢
  have hl : (if i < j + 1 then iota (k + (totTo rows i : Nat)) (rows.getD i []).length else rows.getD i []).length = (if i < j then iota (k + (totTo rows i : Nat)) (rows.getD i []).length else rows.getD i []).length := by
    split <;> split <;> simp [iota_len]
  have hk1 : Kept (H j) (H j + 1) w w2 := Kept.of_grown hb (Nat.le_refl _) (Nat.lt_succ_self _)
  have hgj := hg j hj
  refine ⟨by rw [hl]; exact hk1.cell h1 (by dsimp only; omega), by rw [hl]; exact h2, by rw [hl]; exact h3, Nat.lt_of_lt_of_le h4 hb.size, ?_⟩
  by_cases e : i = j
  · subst e
    rw [if_pos (by omega)]; exact hc
  · have hne : H i ≠ H j := by
      rcases Nat.lt_or_ge i j with hlt | hge
      · exact hH i j hlt hj
      · exact Ne.symm (hH j i (by omega) hi)
    have h6 := h5.kept hk1 (by omega)
    by_cases e3 : i < j
    · rw [if_pos e3] at h6; rw [if_pos (by omega)]; exact h6
    · rw [if_neg e3] at h6; rw [if_neg (by omega)]; exact h6
/-- slices that make lays -/
def nils (n : Nat) : Array Value := (List.replicate n (Value.slice none 0 0)).toArray
theorem info_ss : (Try.prog.info? 22).map (fun i => (i.zero, i.size, i.bytes)) = some (some (.slice none 0 0), 1, 24) := by kernel_rfl
theorem mk_rows (n : Nat) (hn : n ≤ 1048576) (w : World) :
    (Instr.makeSlice 28 (.int .i64 (n : Int)) (.int .i64 (n : Int))).run Try.prog w = .ok (.slice (some ⟨w.heap.size, 0, none⟩) n n) (w.alloc (.cells (nils n) 22)) := by
  obtain ⟨i0, hi, hz0, hz1, hz2⟩ := info_parts info_ss
  have hr := run_make (P := Try.prog) w 28 22 i0 (.slice none 0 0) Try.underlying28 hi hz0 .i64 .i64 (n : Int) (n : Int) (by omega) (Int.le_refl _) (by rw [hz2]; omega) (by omega)
  rw [hr]
  simp only [Int.toNat_natCast, hz1, Nat.mul_one]
  congr 3
  show madeCells #[.slice none 0 0] n = _
  rw [← Array.toArray_toList (xs := madeCells _ _), toList_madeCells_one]
  rfl
/-- rows in the making: the first k are there -/
def MakM (w : World) (g n k : Nat) (rows : List (List Int)) (H : Nat → Nat) : Prop :=
  g < w.heap.size ∧ (∀ j, j < n → (∃ v, w.cell? ⟨g, j, none⟩ = some v) ∧ w.frozen? ⟨g, j, none⟩ = false) ∧ (∀ j, j < k → w.cell? ⟨g, j, none⟩ = some (.slice (some ⟨H j, 0, none⟩) (rows.getD j []).length (rows.getD j []).length) ∧ g < H j ∧ H j < w.heap.size ∧ Cells w (H j) 0 (rows.getD j [])) ∧ ∀ i j, i < j → j < k → H i < H j
theorem MakM.start {w : World} {n : Nat} {rows : List (List Int)} : MakM (w.alloc (.cells (nils n) 22)) w.heap.size n 0 rows (fun _ => 0) := by
  refine ⟨by simp, fun j hj => ⟨⟨.slice none 0 0, ?_⟩, World.frozen?_alloc_new w _ 22 _⟩, fun j hj => absurd hj (Nat.not_lt_zero _), fun i j _ hj => absurd hj (Nat.not_lt_zero _)⟩
  rw [World.cell?_alloc_new]
  simp [nils, hj]
theorem MakM.step {w w2 : World} {g n k : Nat} {rows : List (List Int)} {H : Nat → Nat} (h : MakM w g n k rows H) (hk : k < n) (hb : Below w.heap.size w w2) (hs : w.heap.size < w2.heap.size) (hc : Cells w2 w.heap.size 0 (rows.getD k [])) :
    MakM (w2.setCell ⟨g, k, none⟩ (.slice (some ⟨w.heap.size, 0, none⟩) (rows.getD k []).length (rows.getD k []).length)) g n (k + 1) rows (fun j => if j = k then w.heap.size else H j) := by
  obtain ⟨h1, h2, h3, h4⟩ := h
  have hgw : g < w2.heap.size := Nat.lt_of_lt_of_le h1 hb.size
  have hcell : ∀ j, j < n → ∃ v, w2.cell? ⟨g, j, none⟩ = some v := fun j hj => by
    obtain ⟨⟨v, hv⟩, _⟩ := h2 j hj; exact ⟨v, later hb hv⟩
  have hK : Kept g (g + 1) w2 (w2.setCell ⟨g, k, none⟩ (.slice (some ⟨w.heap.size, 0, none⟩) (rows.getD k []).length (rows.getD k []).length)) := Kept.of_grown (grown_set (World.grownBy.refl _ _)) (Nat.le_refl _) (Nat.lt_succ_self _)
  refine ⟨by simpa [World.setCell] using hgw, fun j hj => ⟨?_, ?_⟩, fun j hj => ?_, fun i j hij hj => ?_⟩
  · obtain ⟨v, hv⟩ := hcell j hj
    by_cases e : j = k
    · subst e; exact ⟨_, World.cell?_setCell_same _ _ _ hv⟩
    · exact ⟨v, (World.cell?_setCell_other _ _ _ _ (fun e2 => by injection e2 with _ e3; omega)).trans hv⟩
  · rw [World.frozen?_setCell]
    obtain ⟨⟨v, hv⟩, hf⟩ := h2 j hj
    exact laterF hb hv hf
  · by_cases e : j = k
    · subst e
      obtain ⟨v, hv⟩ := hcell j hk
      simp only [if_true]
      refine ⟨World.cell?_setCell_same _ _ _ hv, h1, by simpa [World.setCell] using hs, hc.kept hK (by omega)⟩
    · obtain ⟨q1, q2, q3, q4⟩ := h3 j (by omega)
      simp only [if_neg e]
      refine ⟨(World.cell?_setCell_other _ _ _ _ (fun e2 => by injection e2 with _ e3; omega)).trans (later hb q1), q2, by simpa [World.setCell] using Nat.lt_of_lt_of_le q3 hb.size, (q4.below hb).kept hK (by omega)⟩
  · by_cases e : j = k
    · subst e
      simp only [if_true, if_neg (show ¬ i = j by omega)]
      exact (h3 i hij).2.2.1
    · simp only [if_neg e, if_neg (show ¬ i = k by omega)]
      exact h4 i j hij (by omega)
theorem MakM.done {w : World} {g n : Nat} {rows : List (List Int)} {H : Nat → Nat} (h : MakM w g n n rows H) (hn : rows.length = n) (hm : ∀ k, k < n → (rows.getD k []).length ≤ 1048576) : OwnM w g w.heap.size (some ⟨g, 0, none⟩) n n rows := by
  obtain ⟨h1, h2, h3, h4⟩ := h
  refine ⟨hn, Nat.le_refl _, Nat.le_refl _, .inr ⟨g, H, fun k => (rows.getD k []).length, rfl, Nat.le_refl _, h1, fun k hk => ?_, fun j k hjk hk => Nat.ne_of_lt (h4 j k hjk hk), fun k hk => ?_⟩⟩
  · obtain ⟨q1, q2, q3, q4⟩ := h3 k hk
    exact ⟨by omega, q3, by omega⟩
  · obtain ⟨q1, q2, q3, q4⟩ := h3 k hk
    exact ⟨q1, Nat.le_refl _, hm k hk, q3, q4⟩
end Go.Proofs.Ytfmhbphbgdijpaa
