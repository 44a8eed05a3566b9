/- arguments that are slices of slices of numbers, opened -/
import Derived.Test.YtfmhbphbgdijpaaOpen
import Derived.Test.YtfmhbphbgdijpaaMat
import Derived.Deep.Matrix
set_option linter.unusedVariables false
set_option linter.unusedSimpArgs false
namespace Go.Proofs.Ytfmhbphbgdijpaa
open Go.RowKit Go.ChangeShapes Go.WideShapes Go.Deep

section
variable {H : Type} {enc : TypeId × Value → H} {P : Program} {w : World} {base : Nat} {held : Bool}
/-- an argument that is a slice of slices of int64 -/
theorem open_rdM {r : Reach} {b0 : Nat} {t te ti : TypeId} {v : Value} {d : DataW H} {p : List MemPlace} (hs : P.underlying t = some (.slice te)) (he : P.underlying te = some (.slice ti)) (hq : P.underlying ti = some (.int .i64)) (ce : P.cellsOf te = 1) (cq : P.cellsOf ti = 1)
    (hv : Value.okWide P w r b0 t v) (h : DataW.Trod enc P w base (fun _ => true) held t v d p) :
    ∃ (A : Option Addr) (l c : Nat) (rows : List (List Int)), v = .slice A l c ∧ rows.length = l ∧ l ≤ 9223372036854775807 ∧ RdM w A rows := by
  obtain ⟨A, l, c, rfl⟩ := okWide_slice hs hv
  obtain ⟨fuel, hf⟩ := h
  rcases open_int_rows hs he hq ce cq hf with ⟨hcs, _⟩ | ⟨a, len, cap, A', L, C, Z, hcs, _, hl, hm, _, hcell⟩
  · simp [Value.cells] at hcs
    obtain ⟨rfl, rfl, rfl⟩ := hcs
    exact ⟨none, 0, 0, [], rfl, rfl, by omega, .inl rfl⟩
  · simp [Value.cells] at hcs
    obtain ⟨rfl, rfl, rfl⟩ := hcs
    unfold maxLen at hm
    refine ⟨some a, l, c, (List.range l).map (fun r => (Z r).take (L r)), rfl, by simp, by omega, ?_⟩
    by_cases h0 : l = 0
    · subst h0; exact .inl rfl
    · obtain ⟨b, off, spot⟩ := a
      have hc0 := (hcell 0 (by omega)).1
      have hspot : spot = none := by simpa [Addr.add] using World.cell?_spot hc0
      subst hspot
      have e : ∀ b off j, (⟨b, off, none⟩ : Addr).add j = ⟨b, off + j, none⟩ := fun b off j => by unfold Addr.add; split <;> simp_all
      refine .inr ⟨b, off, rfl, fun k hk => ?_⟩
      have hk : k < l := by simpa using hk
      obtain ⟨q1, q2, q3, q4, _, q5, q6⟩ := hcell k (by omega)
      unfold maxLen at q3
      rw [getD_range hk]
      have hlen : ((Z k).take (L k)).length = L k := by simp; omega
      refine ⟨A' k, L k, C k, by rw [← e]; exact q1, hlen, q2, by omega, ?_⟩
      by_cases hL : L k = 0
      · left; rw [hL]; rfl
      · cases hA : A' k with
        | none => have := q5 hA; omega
        | some a' =>
          obtain ⟨_, q7⟩ := q6 a' hA
          obtain ⟨b2, off2, spot2⟩ := a'
          have hc2 := q7 0 (by omega)
          have hspot : spot2 = none := by simpa [Addr.add] using World.cell?_spot hc2
          subst hspot
          refine .inr ⟨b2, off2, rfl, fun j hj => ?_⟩
          rw [hlen] at hj
          have h2 := q7 j (by omega)
          rw [e] at h2
          simpa [List.getElem?_take, hj] using h2
end
end Go.Proofs.Ytfmhbphbgdijpaa
