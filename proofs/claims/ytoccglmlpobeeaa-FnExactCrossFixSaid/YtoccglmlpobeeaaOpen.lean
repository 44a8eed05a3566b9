/- arguments by value, opened -/
import Derived.ProofKit
import Derived.Lib.SmallJoins
set_option linter.unusedVariables false
set_option linter.unusedSimpArgs false
namespace Go.Proofs.Ytoccglmlpobeeaa
open Go.RowKit Go.ChangeShapes Go.WideShapes
section
variable {H : Type} {enc : TypeId × Value → H} {P : Program} {w : World} {base : Nat} {spare : Nat → Bool} {held : Bool}
/-- a struct whose fields are all int64, one cell each: its cells are numbers -/
theorem cells_i64 {t : TypeId} {fs : Array Field} {n : Nat} {cs : List Value} {x : DataW H × List MemPlace} (hs : P.underlying t = some (.struct fs))
    (hk : ∀ i (f : Field), fs[i]? = some f → f.offset = i ∧ P.underlying f.type = some (.int .i64) ∧ P.cellsOf f.type = 1) (hC : P.cellsOf t = fs.size)
    (h : DataW.trod enc P w base spare held n t cs = some x) : ∃ zs : List Int, zs.length = fs.size ∧ cs = zs.map (Value.int .i64) ∧ ∀ z ∈ zs, (Lit.int .i64 z).wf = true := by
  obtain ⟨xs, m, _, _, hl, hlen, hf⟩ := DataW.trod_struct hs h
  rw [hC] at hl
  have hone : ∀ i, i < fs.size → ∃ z, cs[i]? = some (.int .i64 z) ∧ (Lit.int .i64 z).wf = true := by
    intro i hi
    obtain ⟨f, hfi⟩ : ∃ f, fs[i]? = some f := ⟨fs[i], Array.getElem?_eq_getElem hi⟩
    obtain ⟨ho, hu, hc⟩ := hk i f hfi
    have h1 := hf i f hfi
    rw [ho, hc] at h1
    have hxi : xs[i]? = some xs[i] := List.getElem?_eq_getElem (by omega)
    rw [hxi] at h1
    obtain ⟨z, hz, _, hw⟩ := DataW.trod_int hu h1
    refine ⟨z, ?_, hw⟩
    have h2 : ((cs.drop i).take 1)[0]? = some (.int .i64 z) := by rw [hz]; rfl
    simpa using h2
  refine ⟨cs.map intOf, by simp [hl], ?_, ?_⟩
  · apply List.ext_getElem? 
    intro i
    by_cases hi : i < fs.size
    · obtain ⟨z, hz, _⟩ := hone i hi
      simp [hz, intOf]
    · have : cs.length ≤ i := by omega
      simp [this]
  · intro z hz
    obtain ⟨v, hv, rfl⟩ := List.mem_map.1 hz
    obtain ⟨i, hi, rfl⟩ := List.getElem_of_mem hv
    obtain ⟨z, hz', hw⟩ := hone i (by omega)
    rw [List.getElem?_eq_getElem hi] at hz'
    rw [Option.some.inj hz']
    exact hw
theorem open_i64s {r : Reach} {b0 : Nat} {t : TypeId} {fs : Array Field} {v : Value} {d : DataW H} {p : List MemPlace} (hs : P.underlying t = some (.struct fs))
    (hk : ∀ i (f : Field), fs[i]? = some f → f.offset = i ∧ P.underlying f.type = some (.int .i64) ∧ P.cellsOf f.type = 1) (hC : P.cellsOf t = fs.size)
    (hv : Value.okWide P w r b0 t v) (h : DataW.Trod enc P w base spare held t v d p) :
    ∃ zs : List Int, zs.length = fs.size ∧ v = .agg (zs.map (Value.int .i64)).toArray ∧ ∀ z ∈ zs, (Lit.int .i64 z).wf = true := by
  obtain ⟨cs, rfl, hsz⟩ := okWide_struct hs hv
  obtain ⟨fuel, hf⟩ := h
  obtain ⟨zs, hl, he, hw⟩ := cells_i64 hs hk hC hf
  simp only [Value.cells] at he
  exact ⟨zs, hl, by rw [← he], hw⟩
theorem two_of {α : Type} {l : List α} (h : l.length = 2) : ∃ a b, l = [a, b] := by
  match l, h with
  | [a, b], _ => exact ⟨a, b, rfl⟩
theorem three_of {α : Type} {l : List α} (h : l.length = 3) : ∃ a b c, l = [a, b, c] := by
  match l, h with
  | [a, b, c], _ => exact ⟨a, b, c, rfl⟩
theorem five_of {α : Type} {l : List α} (h : l.length = 5) : ∃ a b c d e, l = [a, b, c, d, e] := by
  match l, h with
  | [a, b, c, d, e], _ => exact ⟨a, b, c, d, e, rfl⟩
theorem open2 {r : Reach} {b0 : Nat} {t ti : TypeId} {v : Value} {d : DataW H} {p : List MemPlace} {f0 f1 : Field} (hs : P.underlying t = some (.struct #[f0, f1])) (hi : P.underlying ti = some (.int .i64)) (h1 : P.cellsOf ti = 1)
    (e0 : f0.type = ti ∧ f0.offset = 0) (e1 : f1.type = ti ∧ f1.offset = 1) (hC : P.cellsOf t = 2)
    (hv : Value.okWide P w r b0 t v) (h : DataW.Trod enc P w base spare held t v d p) : ∃ x y : Int, v = .agg #[.int .i64 x, .int .i64 y] := by
  obtain ⟨zs, hl, rfl, _⟩ := open_i64s hs (fun i f hf => by
    match i, hf with
    | 0, hf => simp at hf; subst hf; simp [e0, hi, h1]
    | 1, hf => simp at hf; subst hf; simp [e1, hi, h1]
    | i + 2, hf => simp at hf) hC hv h
  obtain ⟨a, b, rfl⟩ := two_of hl
  exact ⟨a, b, rfl⟩
theorem open5 {r : Reach} {b0 : Nat} {t ti : TypeId} {v : Value} {d : DataW H} {p : List MemPlace} {f0 f1 f2 f3 f4 : Field} (hs : P.underlying t = some (.struct #[f0, f1, f2, f3, f4])) (hi : P.underlying ti = some (.int .i64)) (h1 : P.cellsOf ti = 1)
    (e0 : f0.type = ti ∧ f0.offset = 0) (e1 : f1.type = ti ∧ f1.offset = 1) (e2 : f2.type = ti ∧ f2.offset = 2) (e3 : f3.type = ti ∧ f3.offset = 3) (e4 : f4.type = ti ∧ f4.offset = 4) (hC : P.cellsOf t = 5)
    (hv : Value.okWide P w r b0 t v) (h : DataW.Trod enc P w base spare held t v d p) : ∃ x y z u s : Int, v = .agg #[.int .i64 x, .int .i64 y, .int .i64 z, .int .i64 u, .int .i64 s] := by
  obtain ⟨zs, hl, rfl, _⟩ := open_i64s hs (fun i f hf => by
    match i, hf with
    | 0, hf => simp at hf; subst hf; simp [e0, hi, h1]
    | 1, hf => simp at hf; subst hf; simp [e1, hi, h1]
    | 2, hf => simp at hf; subst hf; simp [e2, hi, h1]
    | 3, hf => simp at hf; subst hf; simp [e3, hi, h1]
    | 4, hf => simp at hf; subst hf; simp [e4, hi, h1]
    | i + 5, hf => simp at hf) hC hv h
  obtain ⟨a, b, c, d, e, rfl⟩ := five_of hl
  exact ⟨a, b, c, d, e, rfl⟩
theorem open22 {r : Reach} {b0 : Nat} {t tp ti : TypeId} {v : Value} {d : DataW H} {p : List MemPlace} {f0 f1 g0 g1 : Field} (ht : P.underlying t = some (.struct #[g0, g1])) (hs : P.underlying tp = some (.struct #[f0, f1])) (hi : P.underlying ti = some (.int .i64)) (h1 : P.cellsOf ti = 1)
    (e0 : f0.type = ti ∧ f0.offset = 0) (e1 : f1.type = ti ∧ f1.offset = 1) (hC : P.cellsOf tp = 2) (k0 : g0.type = tp ∧ g0.offset = 0) (k1 : g1.type = tp ∧ g1.offset = 2) (hC4 : P.cellsOf t = 4)
    (hv : Value.okWide P w r b0 t v) (h : DataW.Trod enc P w base spare held t v d p) : ∃ x y z u : Int, v = .agg #[.int .i64 x, .int .i64 y, .int .i64 z, .int .i64 u] := by
  obtain ⟨cs, rfl, hsz⟩ := okWide_struct ht hv
  obtain ⟨fuel, hf⟩ := h
  obtain ⟨y0, y1, n, _, hl, a0, a1⟩ := trod_struct2 ht hf
  simp only [Value.cells] at hl a0 a1
  rw [k0.1, k0.2, hC] at a0
  rw [k1.1, k1.2, hC] at a1
  have hk : ∀ i (f : Field), (#[f0, f1] : Array Field)[i]? = some f → f.offset = i ∧ P.underlying f.type = some (.int .i64) ∧ P.cellsOf f.type = 1 := fun i f hf => by
    match i, hf with
    | 0, hf => simp at hf; subst hf; simp [e0, hi, h1]
    | 1, hf => simp at hf; subst hf; simp [e1, hi, h1]
    | i + 2, hf => simp at hf
  obtain ⟨zs, hz, q0, _⟩ := cells_i64 hs hk hC a0
  obtain ⟨us, hu, q1, _⟩ := cells_i64 hs hk hC a1
  obtain ⟨x, y, rfl⟩ := two_of hz
  obtain ⟨z, u, rfl⟩ := two_of hu
  refine ⟨x, y, z, u, ?_⟩
  have h4 : cs.toList.length = 4 := by simpa [hC4] using hsz
  have hcs : cs.toList = [.int .i64 x, .int .i64 y, .int .i64 z, .int .i64 u] := by
    have e : cs.toList = (cs.toList.drop 0).take 2 ++ (cs.toList.drop 2).take 2 := by
      rw [List.drop_zero, List.take_of_length_le (l := cs.toList.drop 2) (by simp; omega), List.take_append_drop]
    rw [e, q0, q1]; rfl
  rw [← hcs]
end
end Go.Proofs.Ytoccglmlpobeeaa
