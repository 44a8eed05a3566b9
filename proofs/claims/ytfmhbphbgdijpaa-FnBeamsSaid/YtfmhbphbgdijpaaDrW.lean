/- walks: what is drawn, lists -/
import Derived.Test.YtfmhbphbgdijpaaSrcW
import Derived.Test.YtfmhbphbgdijpaaOwn
import Derived.Test.YtfmhbphbgdijpaaWL
set_option linter.unusedVariables false
set_option linter.unusedSimpArgs false
namespace Go.Proofs.Ytfmhbphbgdijpaa
open Go.RowKit

theorem Rd.new2 {w : World} (b : Nat) (t : TypeId) (xs : List Int) (hb : b = w.heap.size) : Rd (w.alloc (.cells (xs.map (Value.int .i64)).toArray t)) (some ⟨b, 0, none⟩) xs := by
  subst hb; exact Rd.new _ _ _
theorem cellB {B : Nat} {w w2 : World} {a : Addr} {v : Value} (hb : Below B w w2) (h : w.cell? a = some v) (hlt : a.block < B) : w2.cell? a = some v := (hb.cell hlt).trans h
theorem frozenB {B : Nat} {w w2 : World} {a : Addr} (hb : Below B w w2) (h : w.frozen? a = false) (hlt : a.block < B) : w2.frozen? a = false := (hb.frozen hlt).trans h
theorem Gs.then {s : Nat} {w w1 w2 : World} (h : Gs s w w1) (hb : Below w.heap.size w1 w2) : Gs s w w2 :=
  ⟨hb.os.trans h.os, hb.tape.trans h.tape, hb.output.trans h.output, Nat.le_trans h.size hb.size, fun k hk hne => (hb.block k hk).trans (h.block k hk hne)⟩
theorem Src.low {w w2 : World} {s B : Nat} (h : Src w s) (hb : Below B w w2) (hs : s < B) : Src w2 s := by
  obtain ⟨A, n, c, p, d, ⟨c0, c1, c2, z1, z2⟩, r1, r2, r3, r4, r5, r6⟩ := h
  refine ⟨A, n, c, p, d, ⟨cellB hb c0 hs, cellB hb c1 hs, cellB hb c2 hs, frozenB hb z1 hs, frozenB hb z2 hs⟩, r1, r2, r3, r4, ?_, r6⟩
  rcases Nat.eq_zero_or_pos n with h0 | h0
  · exact .inl h0
  rcases r5 with h | ⟨b, off, e, h⟩
  · exact .inl h
  · exact .inr ⟨b, off, e, fun k hk => by
      obtain ⟨x, hx, h2⟩ := h k hk
      exact ⟨x, cellB hb hx (Nat.lt_trans (r6 h0 b off e) hs), h2⟩⟩
theorem OwnV.gs {w w2 : World} {B s : Nat} {v : Value} {ys : List Int} (h : OwnV w B v ys) (hg : Gs s w w2) (hs : s < B) : OwnV w2 B v ys := by
  refine ⟨h.1, ?_⟩
  rcases h.2 with hn | ⟨g, cap, cur, rfl, hB, hg2, rest⟩
  · exact .inl hn
  · exact .inr ⟨g, cap, cur, rfl, hB, (hg.block g (Array.getElem?_eq_some_iff.1 hg2).1 (fun e => by injection e with e; omega)).trans hg2, rest⟩
theorem OwnV.low {w : World} {B B2 : Nat} {v : Value} {ys : List Int} (h : OwnV w B2 v ys) (hB : B ≤ B2) : OwnV w B v ys := by
  refine ⟨h.1, ?_⟩
  rcases h.2 with hn | ⟨g, cap, cur, rfl, hB2, rest⟩
  · exact .inl hn
  · exact .inr ⟨g, cap, cur, rfl, Nat.le_trans hB hB2, rest⟩
/-- a list of one's own, of at most L numbers -/
def LstPost (L s : Nat) (w : World) (en : Ending) (w9 : World) : Prop := ∃ (v : Value) (xs : List Int), en = .returned v ∧ OwnV w9 w.heap.size v xs ∧ xs.length ≤ L ∧ Src w9 s ∧ Gs s w w9
/-- a list that was drawn, as a law reads it -/
def LstDraw (L : Nat) (w : World) (en : Ending) (w9 : World) : Prop := ∃ (A : Option Addr) (p c : Nat) (xs : List Int), en = .returned (.slice A p c) ∧ xs.length = p ∧ p ≤ c ∧ p ≤ L ∧ Rd w9 A xs ∧ (A = none → p = 0 ∧ c = 0) ∧ Below w.heap.size w w9
theorem OwnV.sl {w : World} {B : Nat} {v : Value} {xs : List Int} (h : OwnV w B v xs) : ∃ (A : Option Addr) (p c : Nat), v = .slice A p c ∧ xs.length = p ∧ p ≤ c ∧ Rd w A xs ∧ (A = Option.none → p = 0 ∧ c = 0) := by
  obtain ⟨A, c, e, hR⟩ := h.R
  refine ⟨A, xs.length, c, e, rfl, hR.2.1, hR.rd, fun hA => ?_⟩
  subst hA
  rcases h.2 with ⟨h1, _⟩ | ⟨g, cap, cur, h1, _⟩
  · rw [h1] at e; injection e with e1 e2 e3; exact ⟨e2.symm, e3.symm⟩
  · rw [h1] at e; injection e with e1; cases e1
end Go.Proofs.Ytfmhbphbgdijpaa
