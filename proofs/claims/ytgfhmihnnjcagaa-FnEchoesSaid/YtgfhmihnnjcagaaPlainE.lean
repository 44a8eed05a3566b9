/- plain functions: echoes -/
import Derived.Test.YtgfhmihnnjcagaaPlain2
set_option linter.unusedVariables false
set_option linter.unusedSimpArgs false
namespace Go.Proofs.Ytgfhmihnnjcagaa
open Go.RowKit

/-- a pulse times a gain is added, its first j samples -/
def addTo (ys ps : List Int) (d : Nat) (g : Int) : Nat → List Int
  | 0 => ys
  | j + 1 => (addTo ys ps d g j).set (d + j) ((addTo ys ps d g j).getD (d + j) 0 + g * ps.getD j 0)
theorem addTo_len (ys ps : List Int) (d : Nat) (g : Int) (j : Nat) : (addTo ys ps d g j).length = ys.length := by
  induction j with
  | zero => rfl
  | succ j ih => simp only [addTo, List.length_set, ih]
theorem getD_set_ne {ys : List Int} {i k : Nat} {v : Int} (h : i ≠ k) : (ys.set i v).getD k 0 = ys.getD k 0 := by
  rw [List.getD_eq_getElem?_getD, List.getD_eq_getElem?_getD, List.getElem?_set_ne h]
theorem getD_set_eq {ys : List Int} {i : Nat} {v : Int} (h : i < ys.length) : (ys.set i v).getD i 0 = v := by
  simp [h]
theorem addTo_at {ys ps : List Int} {d : Nat} {g : Int} {j i : Nat} (hd : d + j ≤ ys.length) : (addTo ys ps d g j).getD i 0 = ys.getD i 0 + (if d ≤ i ∧ i < d + j then g * ps.getD (i - d) 0 else 0) := by
  induction j with
  | zero => rw [if_neg (by omega)]; simp [addTo]
  | succ j ih =>
    have ih := ih (by omega)
    simp only [addTo]
    by_cases h : i = d + j
    · subst h
      rw [getD_set_eq (by rw [addTo_len]; omega), ih, if_neg (by omega), if_pos (by omega), show d + j - d = j by omega]
      omega
    · rw [getD_set_ne (Ne.symm h), ih]
      by_cases h2 : d ≤ i ∧ i < d + j
      · rw [if_pos h2, if_pos (by omega)]
      · rw [if_neg h2, if_neg (by omega)]
/-- all entries are at most M -/
def Bd (M : Int) (xs : List Int) : Prop := ∀ i, -M ≤ xs.getD i 0 ∧ xs.getD i 0 ≤ M
theorem Bd.of {M : Int} {xs : List Int} (h0 : 0 ≤ M) (h : ∀ x ∈ xs, -M ≤ x ∧ x ≤ M) : Bd M xs := fun i => by
  by_cases hi : i < xs.length
  · exact h _ (List.mem_of_getElem? (getD_at hi))
  · rw [List.getD_eq_getElem?_getD, List.getElem?_eq_none (by omega)]; simp; omega
theorem Bd.zero (n : Nat) : Bd 0 (List.replicate n 0) := .of (by omega) (fun x hx => by rw [List.eq_of_mem_replicate hx]; omega)
theorem Bd.mono {M N : Int} {xs : List Int} (h : Bd M xs) (hl : M ≤ N) : Bd N xs := fun i => by have := h i; omega
theorem Bd.mem {M : Int} {xs : List Int} (h : Bd M xs) : ∀ x ∈ xs, -M ≤ x ∧ x ≤ M := fun x hx => by
  obtain ⟨i, hi, rfl⟩ := List.getElem_of_mem hx
  have := h i; simpa [hi] using this
theorem addTo_bd {ys ps : List Int} {d : Nat} {g M G : Int} {j : Nat} (hd : d + j ≤ ys.length) (h : Bd M ys) (hp : Sig ps) (hg : -G ≤ g ∧ g ≤ G) : Bd (M + G * 1000) (addTo ys ps d g j) := fun i => by
  rw [addTo_at hd]
  have h1 := h i
  have h2 := mul_bd (a := g) (b := ps.getD (i - d) 0) (A := G) (B := 1000) hg (hp.at _)
  split <;> omega
/-- the first k echoes -/
def echTo (ps ds gs : List Int) (L : Nat) : Nat → List Int
  | 0 => List.replicate L 0
  | k + 1 => addTo (echTo ps ds gs L k) ps (ds.getD k 0).toNat (gs.getD k 0) ps.length
theorem echTo_len (ps ds gs : List Int) (L k : Nat) : (echTo ps ds gs L k).length = L := by
  induction k with
  | zero => simp [echTo]
  | succ k ih => simp only [echTo, addTo_len, ih]
theorem echTo_bd {ps ds gs : List Int} {L k : Nat} (hp : Sig ps) (hg : Sig gs) (hd : ∀ i, i < k → 0 ≤ ds.getD i 0 ∧ ds.getD i 0 ≤ (L : Int) - ps.length) : Bd (1000000 * k) (echTo ps ds gs L k) := by
  induction k with
  | zero => exact (Bd.zero L).mono (by omega)
  | succ k ih =>
    have ih := ih (fun i hi => hd i (by omega))
    have h1 := hd k (by omega)
    have h2 := addTo_bd (ys := echTo ps ds gs L k) (ps := ps) (d := (ds.getD k 0).toNat) (g := gs.getD k 0) (G := 1000) (j := ps.length) (by rw [echTo_len]; omega) ih hp (hg.at k)
    exact h2.mono (by omega)
def ech (ps ds gs : List Int) (L : Int) : List Int := echTo ps ds gs L.toNat ds.length
def echOk (ps ds gs : List Int) (L : Int) : Bool := inR L 0 400 && decide (ds.length ≤ 200) && decide (gs.length = ds.length) && allIn (-1000) 1000 gs && allIn 0 (L - ps.length) ds
def ecVal (ps ds gs : List Int) (L : Int) : List Int := if isSig ps && echOk ps ds gs L && isSig (ech ps ds gs L) then ech ps ds gs L else []
def ecCode (ps ds gs : List Int) (L : Int) : Int := if isSig ps then (if echOk ps ds gs L then (if isSig (ech ps ds gs L) then 0 else 3) else 2) else 1
theorem ecVal_len {ps ds gs : List Int} {L : Int} : (ecVal ps ds gs L).length ≤ 1048576 := by
  unfold ecVal; split
  · have := isSig_iff.1 (show isSig (ech ps ds gs L) = true by simp_all); omega
  · simp
theorem echOk_bd {ps ds gs : List Int} {L : Int} (h : echOk ps ds gs L = true) : 0 ≤ L ∧ L ≤ 400 ∧ ds.length ≤ 200 ∧ gs.length = ds.length ∧ Sig gs ∧ (∀ i, i < ds.length → 0 ≤ ds.getD i 0 ∧ ds.getD i 0 ≤ L - ps.length) := by
  simp only [echOk, Bool.and_eq_true, decide_eq_true_eq, inR_iff] at h
  exact ⟨h.1.1.1.1.1, h.1.1.1.1.2, h.1.1.1.2, h.1.1.2, allIn_iff.1 h.1.2, fun i hi => allIn_getD h.2 hi⟩
end Go.Proofs.Ytgfhmihnnjcagaa
