/- arguments that are slices of bytes, opened -/
import Derived.Test.YtfmhbphbgdijpaaOpen
import Derived.Test.YtfmhbphbgdijpaaSrc
set_option linter.unusedVariables false
set_option linter.unusedSimpArgs false
namespace Go.Proofs.Ytfmhbphbgdijpaa
open Go.RowKit Go.ChangeShapes Go.WideShapes
theorem byte_rng {n : Int} (h : (Lit.int .u8 n).wf = true) : 0 ≤ n ∧ n ≤ 255 := by
  simp only [Lit.wf, Bool.and_eq_true, decide_eq_true_eq] at h
  exact h
section
variable {H : Type} {enc : TypeId × Value → H} {P : Program} {w : World} {base : Nat} {spare : Nat → Bool} {held : Bool}
/-- an argument that is a slice of bytes -/
theorem open_rdB {r : Reach} {b0 : Nat} {t te : TypeId} {v : Value} {d : DataW H} {p : List MemPlace} (hs : P.underlying t = some (.slice te)) (he : P.underlying te = some (.int .u8)) (h1 : P.cellsOf te = 1)
    (hv : Value.okWide P w r b0 t v) (h : DataW.Trod enc P w base spare held t v d p) :
    ∃ (A : Option Addr) (l c : Nat), v = .slice A l c ∧ l ≤ c ∧ RdB w A l := by
  obtain ⟨A, l, c, rfl⟩ := okWide_slice hs hv
  obtain ⟨fuel, hf⟩ := h
  rcases open_ints hs he h1 hf with ⟨hcs, _⟩ | ⟨x, l', c', zs, hcs, _, hl, hm, hz, _, hcell, hwf⟩
  · simp [Value.cells] at hcs
    obtain ⟨rfl, rfl, rfl⟩ := hcs
    exact ⟨none, 0, 0, rfl, Nat.le_refl _, .inl rfl⟩
  · simp [Value.cells] at hcs
    obtain ⟨rfl, rfl, rfl⟩ := hcs
    have hzl : l ≤ zs.length := by rw [hz]; split <;> omega
    refine ⟨some x, l, c, rfl, hl, ?_⟩
    by_cases h0 : l = 0
    · exact .inl h0
    · obtain ⟨b, off, spot⟩ := x
      have hc := hcell 0 (by omega)
      have hspot : spot = none := by simpa [Addr.add] using World.cell?_spot hc
      subst hspot
      refine .inr ⟨b, off, rfl, fun k hk => ?_⟩
      have h2 := hcell k (by omega)
      have e : (⟨b, off, none⟩ : Addr).add k = ⟨b, off + k, none⟩ := by unfold Addr.add; split <;> simp_all
      rw [e] at h2
      have hk2 : k < zs.length := by omega
      have hw := hwf (zs.getD k 0) (by rw [List.getD_eq_getElem?_getD, List.getElem?_eq_getElem hk2]; exact List.getElem_mem hk2)
      have hr : 0 ≤ zs.getD k 0 ∧ zs.getD k 0 ≤ 255 := byte_rng hw
      exact ⟨_, h2, hr.1, hr.2⟩
end
end Go.Proofs.Ytfmhbphbgdijpaa
