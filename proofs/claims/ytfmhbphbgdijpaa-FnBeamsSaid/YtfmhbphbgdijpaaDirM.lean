/- slices of directions in the making, apart from a source -/
import Derived.Test.YtfmhbphbgdijpaaChM
import Derived.Test.YtfmhbphbgdijpaaTrips
import Derived.Test.YtfmhbphbgdijpaaW18
import Derived.Test.YtfmhbphbgdijpaaW16
set_option linter.unusedVariables false
set_option linter.unusedSimpArgs false
namespace Go.Proofs.Ytfmhbphbgdijpaa
open Go.RowKit

theorem ownsRow_gs3 {s : Nat} {w w2 : World} {B e n z : Nat} {v : Value} {xs : List Value} (h : w.ownsRow B e z v n xs) (hg : Gs s w w2) (hs : s < B) : w2.ownsRow B e z v n xs := by
  refine ⟨h.1, ?_⟩
  rcases h.2 with hn | ⟨g, cap, cur, rfl, hB, hg2, rest⟩
  · exact .inl hn
  · exact .inr ⟨g, cap, cur, rfl, hB, (hg.block g (Array.getElem?_eq_some_iff.1 hg2).1 (fun e => by injection e with e; omega)).trans hg2, rest⟩
/-- a slice of n directions in the making: its numbers, three by three -/
def DrM (w : World) (B : Nat) (v : Value) (n : Nat) (ts : List Int) : Prop := w.ownsRow B 42 3 v n (ts.map (Value.int .i64))
theorem DrM.gs {s : Nat} {w w2 : World} {B n : Nat} {v : Value} {ts : List Int} (h : DrM w B v n ts) (hg : Gs s w w2) (hs : s < B) : DrM w2 B v n ts := ownsRow_gs3 h hg hs
theorem DrM.alloc {w : World} {B n : Nat} {v : Value} {ts : List Int} (h : DrM w B v n ts) (o : Obj) : DrM (w.alloc o) B v n ts := World.ownsRow.alloc h o
theorem DrM.empty (w : World) (B : Nat) (hB : B ≤ w.heap.size) : DrM (w.alloc (.cells #[] 42)) B (.slice (some ⟨w.heap.size, 0, none⟩) 0 0) 0 [] := World.ownsRow_made w #[] 0 hB (Nat.zero_le _) rfl
/-- n directions that can be read, apart from block s -/
def RdDS (s : Nat) (w : World) (A : Option Addr) (n : Nat) (f g e : Nat → Int) : Prop := n = 0 ∨ ∃ b off, A = some ⟨b, off, none⟩ ∧ b ≠ s ∧ ∀ k, k < n → w.cell? ⟨b, off + k * 3, none⟩ = some (.int .i64 (f k)) ∧ w.cell? ⟨b, off + k * 3 + 1, none⟩ = some (.int .i64 (g k)) ∧ w.cell? ⟨b, off + k * 3 + 2, none⟩ = some (.int .i64 (e k))
theorem RdDS.rdD {s : Nat} {w : World} {A : Option Addr} {n : Nat} {f g e : Nat → Int} (h : RdDS s w A n f g e) : RdD w A n f g e := by
  rcases h with h | ⟨b, off, q, _, h⟩
  · exact .inl h
  · exact .inr ⟨b, off, q, h⟩
theorem RdDS.gs {s : Nat} {w w2 : World} {A : Option Addr} {n : Nat} {f g e : Nat → Int} (h : RdDS s w A n f g e) (hg : Gs s w w2) : RdDS s w2 A n f g e := by
  rcases h with h | ⟨b, off, q, hb, h⟩
  · exact .inl h
  · exact .inr ⟨b, off, q, hb, fun k hk => ⟨hg.cell2 (h k hk).1 hb, hg.cell2 (h k hk).2.1 hb, hg.cell2 (h k hk).2.2 hb⟩⟩
theorem RdDS.alloc {s : Nat} {w : World} {A : Option Addr} {n : Nat} {f g e : Nat → Int} (h : RdDS s w A n f g e) (o : Obj) : RdDS s (w.alloc o) A n f g e := h.gs (Gs.alloc (Gs.refl _ _) o)
theorem RdMS.alloc {s : Nat} {w : World} {A : Option Addr} {rows : List (List Int)} (h : RdMS s w A rows) (o : Obj) : RdMS s (w.alloc o) A rows := h.gs (Gs.alloc (Gs.refl _ _) o)
theorem DrM.sl {s : Nat} {w : World} {B n : Nat} {v : Value} {ts : List Int} (h : DrM w B v n ts) (hs : s < B) :
    ∃ (A : Option Addr) (c : Nat), v = .slice A n c ∧ n ≤ c ∧ (n = 0 ∨ ∃ g, A = some ⟨g, 0, none⟩) ∧ RdDS s w A n (fun k => ts.getD (k * 3) 0) (fun k => ts.getD (k * 3 + 1) 0) (fun k => ts.getD (k * 3 + 2) 0) := by
  obtain ⟨h0, h1⟩ := h
  have hl : ts.length = n * 3 := by simpa using h0
  rcases h1 with ⟨e, h2⟩ | ⟨g, cap, cur, rfl, hB, hg, hnc, hm, hsz, ht⟩
  · subst h2
    exact ⟨none, 0, e, Nat.le_refl _, .inl rfl, .inl rfl⟩
  · have hc : ∀ j, j < n * 3 → w.cell? ⟨g, j, none⟩ = some (.int .i64 (ts.getD j 0)) := by
      intro j hj
      have h3 := World.ownsRow.cells (w := w) (base := B) (e := 42) (size := 3) (v := .slice (some ⟨g, 0, none⟩) n cap) (n := n) (xs := ts.map (Value.int .i64)) ⟨h0, .inr ⟨g, cap, cur, rfl, hB, hg, hnc, hm, hsz, ht⟩⟩ rfl j (.int .i64 (ts.getD j 0)) (by rw [List.getElem?_map, getD_at (by omega)]; rfl)
      have hadd : (⟨g, 0, none⟩ : Addr).add j = ⟨g, j, none⟩ := by unfold Addr.add; split <;> simp_all
      rw [hadd] at h3; exact h3
    refine ⟨_, cap, rfl, hnc, .inr ⟨g, rfl⟩, .inr ⟨g, 0, rfl, by omega, fun k hk => ?_⟩⟩
    rw [Nat.zero_add]
    exact ⟨hc _ (by omega), hc _ (by omega), hc _ (by omega)⟩
/-- 'append' of one direction -/
theorem app_dr {ops : Array Oper} {rest : List Oper} {o : Oper} {a : Act} {Q : Exit → Act → World → Prop} {w : World} (hgd : o.guard = Option.none) (s x : Operand)
    (ho : o.op = .call { callee := .builtin .append, args := #[s, x], argTypes := #[35, 35] }) (B : Nat) (v : Value) (n : Nat) (ts : List Int) (hs : a.eval s = v) (hown : DrM w B v n ts)
    (x1 x2 x3 : Int) (b : Nat) (hx : a.eval x = .slice (some ⟨b, 0, Option.none⟩) 1 1) (hb : Box w b x1 x2 x3) (hl : n ≤ 1048576) (hB : B ≤ w.heap.size)
    (h : ∀ g cap w', DrM w' B (.slice (some ⟨g, 0, Option.none⟩) (n + 1) cap) (n + 1) (ts ++ [x1, x2, x3]) → Below B w w' → wpList Try.prog ops Q rest (a.put o.dst (.slice (some ⟨g, 0, Option.none⟩) (n + 1) cap)) w') :
    wpList Try.prog ops Q (o :: rest) a w := by
  obtain ⟨i0, hi, hz0, hz1, hz2⟩ := info_parts info_dr
  refine wpList_append_lies w hgd s x 35 ho B 42 i0 (.agg #[.int .i64 0, .int .i64 0, .int .i64 0]) 3 24 Try.underlying35 hi hz0 hz1 hz2 rfl (by decide) v n (ts.map (Value.int .i64)) hs hown ⟨b, 0, Option.none⟩ 1 1 [.int .i64 x1, .int .i64 x2, .int .i64 x3] hx rfl ?_ ?_ (by decide) (by unfold maxLen; omega) (by omega) hB _ rfl ?_
  · intro j u hj
    match j, hj with
    | 0, hj => simp at hj; subst hj; simpa [Addr.add] using hb.1
    | 1, hj => simp at hj; subst hj; simpa [Addr.add] using hb.2.1
    | 2, hj => simp at hj; subst hj; simpa [Addr.add] using hb.2.2
    | j + 3, hj => simp at hj
  · intro u hu; simp at hu; rcases hu with rfl | rfl | rfl <;> rfl
  · intro g cap w' h2 hg hat hlt
    refine h g cap w' ?_ ((Below.refl B w).grown hg hB (fun k hk => (World.ownsRow.lt hown k hk).1))
    show w'.ownsRow B 42 3 _ (n + 1) ((ts ++ [x1, x2, x3]).map (Value.int .i64))
    rw [List.map_append]; exact h2
theorem OwnM.rdMS {s : Nat} {w : World} {B U : Nat} {A : Option Addr} {n c : Nat} {rows : List (List Int)} (h : OwnM w B U A n c rows) (hs : s < B) (hl : ∀ k, (rows.getD k []).length ≤ 500) : RdMS s w A rows := by
  obtain ⟨h1, h2, h3, h4⟩ := h
  rcases h4 with h4 | ⟨g, H, C, r1, r2, r3, r4, r5, r6⟩
  · exact .inl (List.eq_nil_of_length_eq_zero (by omega))
  · refine .inr ⟨g, 0, r1, by omega, fun k hk => ?_⟩
    obtain ⟨q1, q2, q3, q4, q5⟩ := r6 k (by omega)
    have r4k := r4 k (by omega)
    exact ⟨_, _, _, by rw [Nat.zero_add]; exact q1, rfl, q2, hl k, q5.rds (by omega)⟩
theorem TC.rdDS {s : Nat} {w : World} {G n : Nat} {f g e : Nat → Int} (h : TC w G n f g e) (hs : G ≠ s) : RdDS s w (some ⟨G, 0, none⟩) n f g e :=
  .inr ⟨G, 0, rfl, hs, fun k hk => by rw [Nat.zero_add]; exact (h k hk).1⟩
/-- a slice up to a place -/
theorem RdS.take {s : Nat} {w : World} {A : Option Addr} {xs : List Int} (h : RdS s w A xs) (k : Nat) : RdS s w A (xs.take k) := by
  rcases h with h | ⟨b, off, e, hb, h⟩
  · exact .inl (by rw [h]; simp)
  · refine .inr ⟨b, off, e, hb, fun j hj => ?_⟩
    rw [List.length_take] at hj
    rw [h j (by omega)]
    have : (xs.take k).getD j 0 = xs.getD j 0 := by simp [List.getD_eq_getElem?_getD, List.getElem?_take, show j < k by omega]
    rw [this]
end Go.Proofs.Ytfmhbphbgdijpaa
