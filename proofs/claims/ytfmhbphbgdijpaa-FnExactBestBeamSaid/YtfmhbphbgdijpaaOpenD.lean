/- arguments that are slices of triples of numbers, opened -/
import Derived.Test.YtfmhbphbgdijpaaOpen
import Derived.Test.YtfmhbphbgdijpaaTrips
import Derived.Deep.Slices
set_option linter.unusedVariables false
set_option linter.unusedSimpArgs false
namespace Go.Proofs.Ytfmhbphbgdijpaa
open Go.RowKit Go.ChangeShapes Go.WideShapes Go.Deep

section
variable {H : Type} {enc : TypeId × Value → H} {P : Program} {w : World} {base : Nat} {spare : Nat → Bool} {held : Bool}
/-- an argument that is a slice of structs of three int64: its elements as three functions -/
theorem open_rdD {r : Reach} {b0 : Nat} {t te ti : TypeId} {f0 f1 f2 : Field} {v : Value} {d : DataW H} {p : List MemPlace} (hs : P.underlying t = some (.slice te)) (he : P.underlying te = some (.struct #[f0, f1, f2])) (hi : P.underlying ti = some (.int .i64)) (h1 : P.cellsOf ti = 1)
    (e0 : f0.type = ti ∧ f0.offset = 0) (e1 : f1.type = ti ∧ f1.offset = 1) (e2 : f2.type = ti ∧ f2.offset = 2) (hC : P.cellsOf te = 3)
    (hv : Value.okWide P w r b0 t v) (h : DataW.Trod enc P w base spare held t v d p) :
    ∃ (A : Option Addr) (l c : Nat) (f g u : Nat → Int), v = .slice A l c ∧ l ≤ 9223372036854775807 ∧ RdD w A l f g u := by
  obtain ⟨A, l, c, rfl⟩ := okWide_slice hs hv
  obtain ⟨fuel, hf⟩ := h
  rcases open_slice hs hf with ⟨hcs, _⟩ | ⟨x, l', c', m, n, D, Pl, hcs, _, hl, hm, hmm, _, hcell⟩
  · simp [Value.cells] at hcs
    obtain ⟨rfl, rfl, rfl⟩ := hcs
    exact ⟨none, 0, 0, fun _ => 0, fun _ => 0, fun _ => 0, rfl, by omega, .inl rfl⟩
  · simp [Value.cells] at hcs
    obtain ⟨rfl, rfl, rfl⟩ := hcs
    unfold maxLen at hm
    have hlm : l ≤ m := by rw [hmm]; split <;> omega
    have key : ∀ i, i < l → ∃ a b q : Int, w.cell? (x.add (i * 3)) = some (.int .i64 a) ∧ w.cell? (x.add (i * 3 + 1)) = some (.int .i64 b) ∧ w.cell? (x.add (i * 3 + 2)) = some (.int .i64 q) := by
      intro i hi2
      obtain ⟨cs', hc, ht'⟩ := hcell i (by omega)
      rw [hC] at hc
      have hk : ∀ i (f : Field), (#[f0, f1, f2] : Array Field)[i]? = some f → f.offset = i ∧ P.underlying f.type = some (.int .i64) ∧ P.cellsOf f.type = 1 := fun i f hf => by
        match i, hf with
        | 0, hf => simp at hf; subst hf; simp [e0, hi, h1]
        | 1, hf => simp at hf; subst hf; simp [e1, hi, h1]
        | 2, hf => simp at hf; subst hf; simp [e2, hi, h1]
        | i + 3, hf => simp at hf
      obtain ⟨zs, hz, q0, _⟩ := cells_i64 he hk hC ht'
      obtain ⟨a, b, q, rfl⟩ := three_of hz
      obtain ⟨_, hcl, hat⟩ := World.cells?_some hc
      have c0 := hat 0 (by omega)
      have c1 := hat 1 (by omega)
      have c2 := hat 2 (by omega)
      rw [q0] at c0 c1 c2
      refine ⟨a, b, q, ?_, ?_, ?_⟩
      · rw [Go.Deep.add_add] at c0; simpa using c0
      · rw [Go.Deep.add_add] at c1; simpa using c1
      · rw [Go.Deep.add_add] at c2; simpa using c2
    refine ⟨some x, l, c, fun i => if hi2 : i < l then (key i hi2).choose else 0, fun i => if hi2 : i < l then (key i hi2).choose_spec.choose else 0, fun i => if hi2 : i < l then (key i hi2).choose_spec.choose_spec.choose else 0, rfl, by omega, ?_⟩
    by_cases h0 : l = 0
    · exact .inl h0
    · obtain ⟨b, off, spot⟩ := x
      obtain ⟨_, _, _, hc0, _⟩ := key 0 (by omega)
      have hspot : spot = none := by simpa [Addr.add] using World.cell?_spot hc0
      subst hspot
      refine .inr ⟨b, off, rfl, fun k hk => ?_⟩
      have e : ∀ j, (⟨b, off, none⟩ : Addr).add j = ⟨b, off + j, none⟩ := fun j => by unfold Addr.add; split <;> simp_all
      have s := (key k hk).choose_spec.choose_spec.choose_spec
      simp only [dif_pos hk]
      exact ⟨by rw [← e]; exact s.1, by rw [Nat.add_assoc, ← e]; exact s.2.1, by rw [Nat.add_assoc, ← e]; exact s.2.2⟩
end
end Go.Proofs.Ytfmhbphbgdijpaa
