/- slices of slices in the making, apart from a source -/
import Derived.Test.YtfmhbphbgdijpaaDiceL
import Derived.Test.YtfmhbphbgdijpaaDrW5
import Derived.Test.YtfmhbphbgdijpaaMat
import Derived.Test.YtfmhbphbgdijpaaPw
set_option linter.unusedVariables false
set_option linter.unusedSimpArgs false
namespace Go.Proofs.Ytfmhbphbgdijpaa
open Go.RowKit
/-- a row that can be read, not in block s, and not in block q -/
def Row (s : Nat) (q : Option Nat) (w : World) (A : Option Addr) (m c : Nat) (xs : List Int) : Prop :=
  xs.length = m ∧ m ≤ c ∧ m ≤ 500 ∧ (xs = [] ∨ ∃ b off, A = some ⟨b, off, none⟩ ∧ b ≠ s ∧ q ≠ some b ∧ ∀ k, k < xs.length → w.cell? ⟨b, off + k, none⟩ = some (.int .i64 (xs.getD k 0)))
/-- a slice of rows in the making, apart from block s -/
def ChM (s : Nat) (w : World) (B : Nat) (v : Value) (rows : List (List Int)) : Prop :=
  ∃ vals : List Value, w.ownsRow B 22 1 v rows.length vals ∧ vals.length = rows.length ∧ ∀ j, j < rows.length → ∃ A m c, vals[j]? = some (.slice A m c) ∧ Row s v.ownBlock w A m c (rows.getD j [])
theorem Row.cells {s : Nat} {q q2 : Option Nat} {w w2 : World} {A : Option Addr} {m c : Nat} {xs : List Int} (h : Row s q w A m c xs)
    (hc : ∀ b o v, b ≠ s → q ≠ some b → w.cell? ⟨b, o, none⟩ = some v → w2.cell? ⟨b, o, none⟩ = some v) (hq : ∀ b, b < w.heap.size → q ≠ some b → q2 ≠ some b) : Row s q2 w2 A m c xs := by
  obtain ⟨h1, h2, h3, h4⟩ := h
  refine ⟨h1, h2, h3, ?_⟩
  rcases h4 with h4 | ⟨b, off, e, hs, hb, hx⟩
  · exact .inl h4
  · rcases Nat.eq_zero_or_pos xs.length with h0 | h0
    · exact .inl (List.eq_nil_of_length_eq_zero h0)
    · exact .inr ⟨b, off, e, hs, hq b (World.block_lt_of_cell? w _ (hx 0 h0)) hb, fun k hk => hc _ _ _ hs hb (hx k hk)⟩
theorem ownsRow_gs {s : Nat} {w w2 : World} {B e n : Nat} {v : Value} {xs : List Value} (h : w.ownsRow B e 1 v n xs) (hg : Gs s w w2) (hs : s < B) : w2.ownsRow B e 1 v n xs := by
  refine ⟨h.1, ?_⟩
  rcases h.2 with hn | ⟨g, cap, cur, rfl, hB, hg2, rest⟩
  · exact .inl hn
  · exact .inr ⟨g, cap, cur, rfl, hB, (hg.block g (Array.getElem?_eq_some_iff.1 hg2).1 (fun e => by injection e with e; omega)).trans hg2, rest⟩
theorem ChM.gs {s : Nat} {w w2 : World} {B : Nat} {v : Value} {rows : List (List Int)} (h : ChM s w B v rows) (hg : Gs s w w2) (hs : s < B) : ChM s w2 B v rows := by
  obtain ⟨vals, h1, h2, h3⟩ := h
  refine ⟨vals, ownsRow_gs h1 hg hs, h2, fun j hj => ?_⟩
  obtain ⟨A, m, c, e, hr⟩ := h3 j hj
  exact ⟨A, m, c, e, hr.cells (fun b o u hb _ hc => hg.cell2 hc hb) (fun _ _ hq => hq)⟩
theorem ChM.alloc {s : Nat} {w : World} {B : Nat} {v : Value} {rows : List (List Int)} (h : ChM s w B v rows) (o : Obj) : ChM s (w.alloc o) B v rows := by
  obtain ⟨vals, h1, h2, h3⟩ := h
  refine ⟨vals, World.ownsRow.alloc h1 o, h2, fun j hj => ?_⟩
  obtain ⟨A, m, c, e, hr⟩ := h3 j hj
  exact ⟨A, m, c, e, hr.cells (fun b x u _ _ hc => later (Below.alloc (Below.refl _ _) (Nat.le_refl _) o) hc) (fun _ _ hq => hq)⟩
theorem ChM.empty (s : Nat) (w : World) (B : Nat) (hB : B ≤ w.heap.size) : ChM s (w.alloc (.cells #[] 22)) B (.slice (some ⟨w.heap.size, 0, none⟩) 0 0) [] :=
  ⟨[], World.ownsRow_made w #[] 0 hB (Nat.zero_le _) rfl, rfl, fun j hj => absurd hj (Nat.not_lt_zero _)⟩
theorem ChM.nil (s : Nat) (w : World) (B : Nat) : ChM s w B (.slice none 0 0) [] := ⟨[], World.ownsRow_nil _ _ _ _, rfl, fun j hj => absurd hj (Nat.not_lt_zero _)⟩
/-- one row appended: 'vals' are the rows' headers so far -/
theorem ChM.app {s : Nat} {w w2 : World} {B g cap n : Nat} {v : Value} {vals : List Value} {rows : List (List Int)} {A : Option Addr} {m c : Nat} {xs : List Int}
    (hvl : vals.length = rows.length) (hv : ∀ j, j < rows.length → ∃ A m c, vals[j]? = some (.slice A m c) ∧ Row s v.ownBlock w A m c (rows.getD j []))
    (hrow : Row s v.ownBlock w A m c xs) (hn : n = rows.length) (hown : w2.ownsRow B 22 1 (.slice (some ⟨g, 0, none⟩) (n + 1) cap) (n + 1) (vals ++ [.slice A m c]))
    (hg : w.grownBy w2 v.ownBlock) (hat : v.ownBlock = some g ∨ g = w.heap.size) : ChM s w2 B (.slice (some ⟨g, 0, none⟩) (n + 1) cap) (rows ++ [xs]) := by
  subst hn
  have hq : ∀ b, b < w.heap.size → v.ownBlock ≠ some b → (some g : Option Nat) ≠ some b := fun b hb hne e => by
    have e : g = b := by injection e
    rcases hat with h | h
    · exact hne (by rw [h, e])
    · omega
  refine ⟨vals ++ [.slice A m c], by rw [List.length_append]; exact hown, by simp [hvl], fun j hj => ?_⟩
  rcases Nat.lt_or_ge j rows.length with h | h
  · obtain ⟨A1, m1, c1, e, hr⟩ := hv j h
    refine ⟨A1, m1, c1, by rw [List.getElem?_append_left (by omega)]; exact e, ?_⟩
    have : (rows ++ [xs]).getD j [] = rows.getD j [] := by rw [List.getD_eq_getElem?_getD, List.getD_eq_getElem?_getD, List.getElem?_append_left h]
    rw [this]
    exact hr.cells (fun b o u _ hb hc => cellG hg hc hb) hq
  · have hj2 : j = rows.length := by rw [List.length_append] at hj; simp at hj; omega
    subst hj2
    refine ⟨A, m, c, by rw [List.getElem?_append_right (by omega)]; simp [hvl], ?_⟩
    have : (rows ++ [xs]).getD rows.length [] = xs := by simp [List.getD_eq_getElem?_getD, List.getElem?_append_right]
    rw [this]
    exact hrow.cells (fun b o u _ hb hc => cellG hg hc hb) hq
/-- a slice of slices that can be read, apart from block s -/
def RdMS (s : Nat) (w : World) (A : Option Addr) (rows : List (List Int)) : Prop :=
  rows = [] ∨ ∃ b off, A = some ⟨b, off, none⟩ ∧ b ≠ s ∧ ∀ k, k < rows.length → ∃ B m c, w.cell? ⟨b, off + k, none⟩ = some (.slice B m c) ∧ (rows.getD k []).length = m ∧ m ≤ c ∧ m ≤ 500 ∧ RdS s w B (rows.getD k [])
theorem RdMS.gs {s : Nat} {w w2 : World} {A : Option Addr} {rows : List (List Int)} (h : RdMS s w A rows) (hg : Gs s w w2) : RdMS s w2 A rows := by
  rcases h with h | ⟨b, off, e, hb, h⟩
  · exact .inl h
  · refine .inr ⟨b, off, e, hb, fun k hk => ?_⟩
    obtain ⟨B, m, c, h1, h2, h3, h4, h5⟩ := h k hk
    exact ⟨B, m, c, hg.cell2 h1 hb, h2, h3, h4, h5.gs hg⟩
theorem RdMS.rdM {s : Nat} {w : World} {A : Option Addr} {rows : List (List Int)} (h : RdMS s w A rows) : RdM w A rows := by
  rcases h with h | ⟨b, off, e, hb, h⟩
  · exact .inl h
  · refine .inr ⟨b, off, e, fun k hk => ?_⟩
    obtain ⟨B, m, c, h1, h2, h3, h4, h5⟩ := h k hk
    exact ⟨B, m, c, h1, h2, h3, by omega, h5.rd⟩
theorem RdMS.rows {s : Nat} {w : World} {A : Option Addr} {rows : List (List Int)} (h : RdMS s w A rows) (k : Nat) : (rows.getD k []).length ≤ 500 := by
  rcases Nat.lt_or_ge k rows.length with hk | hk
  · rcases h with h | ⟨b, off, e, hb, h⟩
    · rw [h] at hk; simp at hk
    · obtain ⟨B, m, c, h1, h2, h3, h4, h5⟩ := h k hk
      omega
  · rw [List.getD_eq_getElem?_getD, List.getElem?_eq_none hk]; simp
theorem ChM.sl {s : Nat} {w : World} {B : Nat} {v : Value} {rows : List (List Int)} (h : ChM s w B v rows) (hs : s < B) : ∃ (A : Option Addr) (n c : Nat), v = .slice A n c ∧ rows.length = n ∧ n ≤ c ∧ RdMS s w A rows := by
  obtain ⟨vals, h1, h2, h3⟩ := h
  rcases h1.2 with ⟨e, h0⟩ | ⟨g, cap, cur, rfl, hB, hg, hnc, hm, hsz, ht⟩
  · exact ⟨none, 0, 0, e, h0, Nat.le_refl _, .inl (List.eq_nil_of_length_eq_zero h0)⟩
  · refine ⟨_, _, cap, rfl, rfl, hnc, .inr ⟨g, 0, rfl, by omega, fun k hk => ?_⟩⟩
    have h' : w.ownsRow B 22 1 (.slice (some ⟨g, 0, Option.none⟩) rows.length cap) rows.length vals := h1
    obtain ⟨A, m, c, e, hr⟩ := h3 k hk
    refine ⟨A, m, c, ?_, hr.1, hr.2.1, hr.2.2.1, ?_⟩
    · rw [Nat.zero_add, h'.cellAt k (by omega)]
      exact e
    · rcases hr.2.2.2 with h4 | ⟨b, off, e4, hb, _, hx⟩
      · exact .inl h4
      · exact .inr ⟨b, off, e4, hb, hx⟩
/-- a list of one's own as a row: it was made behind the slice of rows -/
theorem OwnV.row {s : Nat} {w : World} {B B2 : Nat} {u v : Value} {n : Nat} {vals : List Value} {w0 : World} {xs : List Int} (h : OwnV w B2 u xs) (hs : s < B2) (hv : w0.ownsRow B 22 1 v n vals) (h0 : w0.heap.size ≤ B2) (hl : xs.length ≤ 500) :
    ∃ A m c, u = .slice A m c ∧ Row s v.ownBlock w A m c xs := by
  obtain ⟨A, c, e, hR⟩ := h.R
  refine ⟨A, xs.length, c, e, rfl, hR.2.1, hl, ?_⟩
  rcases hR.2.2 with ⟨_, h1⟩ | ⟨g, rfl, hB, _, hc⟩
  · exact .inl (List.eq_nil_of_length_eq_zero h1)
  · refine .inr ⟨g, 0, rfl, by omega, fun e => ?_, hc.1⟩
    have := (World.ownsRow.lt hv g e).2
    omega
theorem Row.alloc {s : Nat} {q : Option Nat} {w : World} {A : Option Addr} {m c : Nat} {xs : List Int} (h : Row s q w A m c xs) (o : Obj) : Row s q (w.alloc o) A m c xs :=
  h.cells (fun b x u _ _ hc => later (Below.alloc (Below.refl _ _) (Nat.le_refl _) o) hc) (fun _ _ hq => hq)
def ChPost (s : Nat) (w : World) (en : Ending) (w9 : World) : Prop := ∃ (v : Value) (rows : List (List Int)), en = .returned v ∧ ChM s w9 w.heap.size v rows ∧ rows.length ≤ 5 ∧ Src w9 s ∧ Gs s w w9
theorem cell_sl2 {W : World} {b : Nat} {v : Value} (hb : b = W.heap.size) : (W.alloc (.cells #[v] 22)).cell? ⟨b, 0, Option.none⟩ = some v := by subst hb; exact cell_sl _ _
end Go.Proofs.Ytfmhbphbgdijpaa
