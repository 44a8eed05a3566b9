/- lists beside dice -/
import Derived.Test.YtgfhmihnnjcagaaDiceO
import Derived.Deep.RegionHeldLaw
import Derived.Maps.AppendAt
set_option linter.unusedVariables false
set_option linter.unusedSimpArgs false
namespace Go.Proofs.Ytgfhmihnnjcagaa
open Go.RowKit

theorem Dice.drew {w : World} {s : Nat} (h : Dice w s) : Dice w.drew s := h.below (Below.drew (Below.refl _ _))
theorem Rd.rds {s : Nat} {w w2 : World} {A : Option Addr} {xs : List Int} (h : Rd w A xs) (hs : w.heap.size ≤ s) (hb : Below w.heap.size w w2) : RdS s w2 A xs := by
  rcases h with h | ⟨b, off, e, h⟩
  · exact .inl h
  · rcases Nat.eq_zero_or_pos xs.length with h0 | h0
    · exact .inl (List.eq_nil_of_length_eq_zero h0)
    · have := World.block_lt_of_cell? w _ (h 0 h0)
      exact .inr ⟨b, off, e, (by dsimp only at this; omega), fun k hk => later hb (h k hk)⟩
theorem RdS.new {s : Nat} {w : World} (b : Nat) (t : TypeId) (xs : List Int) (hb : b = w.heap.size) (hs : s < w.heap.size) : RdS s (w.alloc (.cells (xs.map (Value.int .i64)).toArray t)) (some ⟨b, 0, none⟩) xs := by
  rcases Rd.new2 b t xs hb with h | ⟨b2, off, e, h⟩
  · exact .inl h
  · refine .inr ⟨b2, off, e, ?_, h⟩
    injection e with e; injection e with e1; omega
theorem OwnR.rds {s : Nat} {w : World} {B n c : Nat} {A : Option Addr} {xs : List Int} (h : OwnR w B A n c xs) (hs : s < B) : RdS s w A xs := by
  rcases h.2.2 with ⟨_, h0⟩ | ⟨g, rfl, hB, _, hc⟩
  · exact .inl (List.eq_nil_of_length_eq_zero (by rw [h.1, h0]))
  · exact hc.rds (by omega)
theorem RdS.alloc {s : Nat} {w : World} {A : Option Addr} {xs : List Int} (h : RdS s w A xs) (o : Obj) : RdS s (w.alloc o) A xs := h.gs (Gs.alloc (Gs.refl _ _) o)
/-- 'append' of a list of numbers as one step of a region that draws its order -/
theorem step_app {ops : Array Oper} {o : Oper} {a : Act} {w : World} {K : Act → World → Prop} {Q : Exit → Act → World → Prop} {E : Prop} (hgd : o.guard = none) (s x : Operand)
    (ho : o.op = .call { callee := .builtin .append, args := #[s, x], argTypes := #[22, 22] }) (B : Nat) (v : Value) (ys : List Int) (hs : a.eval s = v) (hown : OwnV w B v ys)
    (zs : List Int) (ad : Addr) (p c : Nat) (hx : a.eval x = .slice (some ad) p c) (hp : zs.length = p) (hc : ∀ k, k < p → w.cell? (ad.add k) = some (.int .i64 (zs.getD k 0))) (hl : ys.length + p ≤ 1099511627776) (hB : B ≤ w.heap.size)
    (h : ∀ v' w', OwnV w' B v' (ys ++ zs) → w.grownBy w' v.ownBlock → Below B w w' → K (a.put o.dst v') w') :
    if Region.wanted o (yielded ops a.tmps) = true then Oper.wp Try.prog o a w K Q else E := by
  have hw : Region.wanted o (yielded ops a.tmps) = true := by simp [Region.wanted, hgd]
  rw [if_pos hw]
  obtain ⟨i0, hi, hz0, hz1, hz2⟩ := info_parts info_app
  have hnews : ∀ j u, (zs.map (Value.int .i64))[j]? = some u → w.cell? (ad.add j) = some u := by
    intro j u hj
    have hjl : j < zs.length := by
      rcases Nat.lt_or_ge j zs.length with h | h
      · exact h
      · rw [List.getElem?_eq_none (by simp; omega)] at hj; cases hj
    have hu : u = .int .i64 (zs.getD j 0) := by
      rw [List.getElem?_map, getD_at hjl] at hj; simpa using hj.symm
    subst hu
    exact hc j (by omega)
  obtain ⟨v', w', hr, h2, h3, _, _⟩ := run_append_own_at (P := Try.prog) (w := w) B 22 o.type 2 i0 (.int .i64 0) 1 8 Try.underlying22 hi hz0 hz1 hz2 rfl (by decide) v ys.length (ys.map (Value.int .i64)) hown ad p c (zs.map (Value.int .i64)) (by simp [hp]) hnews
    (by intro u hu; obtain ⟨x, _, rfl⟩ := List.mem_map.1 hu; rfl) (by unfold maxLen; omega) (by omega) hB
  unfold Oper.wp execOp
  simp only [ho, resolve, invoke, builtin, Sem.run_bind, Sem.run_pure, Result.andThen_ok, List.map_toArray, List.map_cons, List.map_nil, hs, hx, hr]
  refine h v' w' ?_ h3 ?_
  · show w'.ownsRow B 2 1 _ (ys ++ zs).length ((ys ++ zs).map (Value.int .i64))
    rw [List.length_append, List.map_append, hp]; exact h2
  · exact (Below.refl B w).grown h3 hB (fun k hk => (World.ownsRow.lt hown k hk).1)
theorem cell_at {W : World} {b : Nat} {x : Int} (hb : b = W.heap.size) : (W.alloc (.cells #[Value.int .i64 x] 2)).cell? ⟨b, 0, none⟩ = some (.int .i64 x) := by
  subst hb; exact cell_new1 _ _
end Go.Proofs.Ytgfhmihnnjcagaa
