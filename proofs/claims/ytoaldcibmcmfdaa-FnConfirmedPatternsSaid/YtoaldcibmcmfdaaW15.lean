/- walks: patterns counted by the reference -/
import Derived.Test.YtoaldcibmcmfdaaOwn
import Derived.Test.YtoaldcibmcmfdaaW13
import Derived.Test.YtoaldcibmcmfdaaW14
import Derived.Laws.AppendOwnNone
import Derived.Outline
set_option linter.unusedVariables false
set_option linter.unusedSimpArgs false
namespace Go.Proofs.Ytoaldcibmcmfdaa
open Go.RowKit

def OwnPost (xs : List Int) (w : World) (en : Ending) (w9 : World) : Prop := ∃ v : Value, en = .returned v ∧ OwnV w9 w.heap.size v xs ∧ w.heap.size + 1 ≤ w9.heap.size ∧ Below w.heap.size w w9
theorem ownNil_any (w : World) : Calls Try.prog 70 #[.slice none 0 0] w (OwnPost [] w) := by
  obtain ⟨i0, hi, hz0, hz1, hz2⟩ := info_parts info_app
  have HO := Lib.hid (OwnV.empty w w.heap.size (Nat.le_refl _))
  go_enter Try.func70, Try.ntmps70
  go_wp2_with (at_builtin; refine wpList_append_own_none rfl _ _ 27 rfl w.heap.size 2 i0 1 Try.underlying27 hi _ 0 [] rfl HO.out rfl ?_)
  go_ret
  exact ⟨_, rfl, HO.out, by simp, by go_grown⟩
theorem ownLst_any (b off p c : Nat) (xs : List Int) (w : World) (hp : xs.length = p) (h0 : 0 < p) (hm : p ≤ 1048576) (hc : ∀ k, k < xs.length → w.cell? ⟨b, off + k, none⟩ = some (.int .i64 (xs.getD k 0))) :
    Calls Try.prog 70 #[.slice (some ⟨b, off, none⟩) p c] w (OwnPost xs w) := by
  obtain ⟨i0, hi, hz0, hz1, hz2⟩ := info_parts info_app
  have HO := Lib.hid (OwnV.empty w w.heap.size (Nat.le_refl _))
  have HC := Lib.hid hc; clear hc
  have HP := Lib.hid hp; clear hp
  go_enter Try.func70, Try.ntmps70
  go_wp2_with (at_builtin; refine wpList_append_lies _ rfl _ _ 27 rfl w.heap.size 2 i0 (.int .i64 0) 1 8 Try.underlying27 hi hz0 hz1 hz2 rfl (by decide) _ 0 [] rfl HO.out ⟨b, off, none⟩ p c (xs.map (Value.int .i64)) rfl (by simp [HP.out]) ?_ ?_ h0 (by unfold maxLen; omega) (by omega) (by simp) _ rfl ?_)
  · intro j u hj
    have hjl : j < xs.length := by
      rcases Nat.lt_or_ge j xs.length with h | h
      · exact h
      · rw [List.getElem?_eq_none (by simp; omega)] at hj; cases hj
    have hu : u = .int .i64 (xs.getD j 0) := by
      rw [List.getElem?_map, getD_at hjl] at hj; simpa using hj.symm
    subst hu
    have h2 := later (Below.alloc (Below.refl w.heap.size w) (Nat.le_refl _) (.cells #[] 2)) (HC.out j hjl)
    have e : (⟨b, off, none⟩ : Addr).add j = ⟨b, off + j, none⟩ := by unfold Addr.add; split <;> simp_all
    rw [e]; exact h2
  · intro u hu
    obtain ⟨x, _, rfl⟩ := List.mem_map.1 hu
    rfl
  · intro g cap w2 h2 hg hat hlt
    have H2 : Hid (OwnV w2 w.heap.size (.slice (some ⟨g, 0, none⟩) p cap) xs) := by
      show w2.ownsRow _ _ _ _ _ _
      rw [HP.out]; exact h2
    have hb2 : Below w.heap.size w w2 := ((Below.refl w.heap.size w).alloc (Nat.le_refl _) _).grown hg (by simp) (fun k hk => by cases hk; exact Nat.le_refl _)
    have hz : w.heap.size + 1 ≤ w2.heap.size := by have := hg.size; simpa using this
    clear h2 hg hat
    go_wp2
    go_ret
    exact ⟨_, rfl, H2.out, hz, hb2⟩
/-- a value that holds a pattern: nil, or a slice that is not empty -/
def PatV (w : World) (v : Value) (xs : List Int) : Prop := (v = .slice none 0 0 ∧ xs = []) ∨ ∃ b off c, v = .slice (some ⟨b, off, none⟩) xs.length c ∧ xs.length ≤ c ∧ 0 < xs.length ∧ ∀ k, k < xs.length → w.cell? ⟨b, off + k, none⟩ = some (.int .i64 (xs.getD k 0))
theorem PatV.below {w w2 : World} {v : Value} {xs : List Int} (h : PatV w v xs) (hb : Below w.heap.size w w2) : PatV w2 v xs := by
  rcases h with h | ⟨b, off, c, e, hc, h0, h⟩
  · exact .inl h
  · exact .inr ⟨b, off, c, e, hc, h0, fun k hk => later hb (h k hk)⟩
theorem ownP_any (v : Value) (xs : List Int) (w : World) (hm : xs.length ≤ 1048576) (h : PatV w v xs) : Calls Try.prog 70 #[v] w (OwnPost xs w) := by
  rcases h with ⟨rfl, rfl⟩ | ⟨b, off, c, rfl, _, h0, hc⟩
  · exact ownNil_any w
  · exact ownLst_any b off xs.length c xs w rfl h0 hm hc
theorem PatV.own {w : World} {B g cap : Nat} {xs : List Int} {z : Int} (h : OwnV w B (.slice (some ⟨g, 0, none⟩) (xs.length + 1) cap) (xs ++ [z])) : PatV w (.slice (some ⟨g, 0, none⟩) (xs.length + 1) cap) (xs ++ [z]) := by
  obtain ⟨A, c, e, hR⟩ := h.R
  have hl : (xs ++ [z]).length = xs.length + 1 := by simp
  injection e with e1 e2 e3
  subst e1; subst e3
  rcases hR.2.2 with ⟨e0, _⟩ | ⟨g2, e2, _, _, hc⟩
  · cases e0
  · cases e2
    refine .inr ⟨g, 0, cap, by rw [hl], by have := hR.2.1; omega, by omega, hc.1⟩
end Go.Proofs.Ytoaldcibmcmfdaa
