/- plain functions: echoes found -/
import Derived.Test.YtgfhmihnnjcagaaPlainE
import Derived.Test.YtgfhmihnnjcagaaW9
import Derived.Test.YtgfhmihnnjcagaaNum
set_option linter.unusedVariables false
set_option linter.unusedSimpArgs false
namespace Go.Proofs.Ytgfhmihnnjcagaa
open Go.RowKit

/-- where the next echo lies, how great the match is there, its gain, what is left behind it -/
def feAt (xs ps : List Int) : Nat := peakIx (mts xs ps)
def feV (xs ps : List Int) : Int := (mts xs ps).getD (feAt xs ps) 0
def feG (xs ps : List Int) : Int := near (feV xs ps) (corr ps 0)
def feNext (xs ps : List Int) : List Int := addTo xs ps (feAt xs ps) (-feG xs ps) ps.length
def feRun (ps : List Int) (t : Int) : Nat → List Int → List Int → List Int → List Int × List Int × Int
  | 0, _, ds, gs => (ds, gs, 0)
  | j + 1, xs, ds, gs =>
    if iabs (feV xs ps) < t ∨ feG xs ps = 0 then (ds, gs, 0)
    else if isSig (feNext xs ps) then feRun ps t j (feNext xs ps) (ds ++ [(feAt xs ps : Int)]) (gs ++ [feG xs ps]) else ([], [], 3)
theorem feRun_stop {ps xs ds gs : List Int} {t : Int} {j : Nat} (h : iabs (feV xs ps) < t ∨ feG xs ps = 0) : feRun ps t j xs ds gs = (ds, gs, 0) := by
  cases j with
  | zero => rfl
  | succ j => simp only [feRun]; rw [if_pos h]
theorem feRun_bad {ps xs ds gs : List Int} {t : Int} {j : Nat} (h : ¬ (iabs (feV xs ps) < t ∨ feG xs ps = 0)) (h2 : isSig (feNext xs ps) = false) : feRun ps t (j + 1) xs ds gs = ([], [], 3) := by
  simp only [feRun]; rw [if_neg h, h2]; rfl
theorem feRun_go {ps xs ds gs : List Int} {t : Int} {j : Nat} (h : ¬ (iabs (feV xs ps) < t ∨ feG xs ps = 0)) (h2 : isSig (feNext xs ps) = true) : feRun ps t (j + 1) xs ds gs = feRun ps t j (feNext xs ps) (ds ++ [(feAt xs ps : Int)]) (gs ++ [feG xs ps]) := by
  simp only [feRun]; rw [if_neg h, h2]; rfl
theorem feNext_len (xs ps : List Int) : (feNext xs ps).length = xs.length := addTo_len _ _ _ _ _
theorem feAt_lt {xs ps : List Int} (h : 1 ≤ ps.length) (h2 : ps.length ≤ xs.length) : feAt xs ps + ps.length ≤ xs.length := by
  have hl : (mts xs ps).length = xs.length - ps.length + 1 := mtsTo_len _ _ _
  have := peakTo_lt (mts xs ps) (mts xs ps).length (by omega)
  unfold feAt peakIx; omega
theorem feV_bd {xs ps : List Int} (h : Sig xs) (h2 : Sig ps) (hl : ps.length ≤ 400) : -400000000 ≤ feV xs ps ∧ feV xs ps ≤ 400000000 := by
  unfold feV
  by_cases hi : feAt xs ps < (mts xs ps).length
  · have hm : (mts xs ps).getD (feAt xs ps) 0 ∈ mts xs ps := List.mem_of_getElem? (getD_at hi)
    obtain ⟨k, _, hk⟩ := List.mem_map.1 hm
    rw [← hk]; exact mt_bd h h2 hl k
  · rw [List.getD_eq_getElem?_getD, List.getElem?_eq_none (by omega)]; decide
theorem sq_nonneg (x : Int) : 0 ≤ x * x := by
  rcases Int.lt_or_le x 0 with h | h
  · have := Int.mul_nonneg (a := -x) (b := -x) (by omega) (by omega); rwa [Int.neg_mul_neg] at this
  · exact Int.mul_nonneg h h
theorem corrTo_nonneg (ps : List Int) (i : Nat) : 0 ≤ corrTo ps 0 i := by
  induction i with
  | zero => exact Int.le_refl _
  | succ i ih => simp only [corrTo, Nat.add_zero]; have := sq_nonneg (ps.getD i 0); omega
theorem corrTo_zero {ps : List Int} {i : Nat} (h : corrTo ps 0 i = 0) {j : Nat} (hj : j < i) : ps.getD j 0 = 0 := by
  induction i with
  | zero => omega
  | succ i ih =>
    simp only [corrTo, Nat.add_zero] at h
    have h1 := corrTo_nonneg ps i
    have h2 := sq_nonneg (ps.getD i 0)
    rcases Nat.lt_or_ge j i with h3 | h3
    · exact ih (by omega) h3
    · obtain rfl : j = i := by omega
      have h4 : ps.getD j 0 * ps.getD j 0 = 0 := by omega
      rcases Int.mul_eq_zero.1 h4 with h5 | h5 <;> exact h5
theorem mtTo_zero {xs ps : List Int} {k i : Nat} (h : ∀ j, j < i → ps.getD j 0 = 0) : mtTo xs ps k i = 0 := by
  induction i with
  | zero => rfl
  | succ i ih => simp only [mtTo]; rw [ih (fun j hj => h j (by omega)), h i (by omega)]; omega
/-- where something is found the pulse has energy -/
theorem fe_energy {xs ps : List Int} {t : Int} (ht : 1 ≤ t) (h : t ≤ iabs (feV xs ps)) : 0 < corr ps 0 := by
  have h0 : 0 ≤ corr ps 0 := corrTo_nonneg ps _
  rcases Int.lt_or_eq_of_le h0 with h1 | h1
  · exact h1
  · exfalso
    have hz : ∀ j, j < ps.length → ps.getD j 0 = 0 := fun j hj => corrTo_zero (i := ps.length - 0) h1.symm (by omega)
    have : feV xs ps = 0 := by
      unfold feV
      by_cases hi : feAt xs ps < (mts xs ps).length
      · have hm : (mts xs ps).getD (feAt xs ps) 0 ∈ mts xs ps := List.mem_of_getElem? (getD_at hi)
        obtain ⟨k, _, hk⟩ := List.mem_map.1 hm
        rw [← hk]; exact mtTo_zero hz
      · rw [List.getD_eq_getElem?_getD, List.getElem?_eq_none (by omega)]; rfl
    rw [this] at h
    have : iabs 0 = 0 := rfl
    omega
theorem near_bd {a b M : Int} (hb : 0 < b) (h : -M ≤ a ∧ a ≤ M) (hM : 1 ≤ M) : -M ≤ near a b ∧ near a b ≤ M + 1 := by
  have := ediv_bd hb h hM
  unfold near; split <;> omega
def feOk (t m : Int) : Bool := inR t 1 1000000000000 && inR m 0 10
def feCode0 (xs ps : List Int) (t m : Int) : Int := if mCode xs ps = 0 then (if feOk t m then 0 else 2) else mCode xs ps
def feAll (xs ps : List Int) (t m : Int) : List Int × List Int × Int := if feCode0 xs ps t m = 0 then feRun ps t m.toNat xs [] [] else ([], [], feCode0 xs ps t m)
theorem feRun_len {ps : List Int} {t : Int} {j : Nat} {xs ds gs : List Int} {L : Nat} (h1 : ds.length + j ≤ L) (h2 : gs.length = ds.length) : (feRun ps t j xs ds gs).1.length ≤ L ∧ (feRun ps t j xs ds gs).2.1.length = (feRun ps t j xs ds gs).1.length := by
  induction j generalizing xs ds gs with
  | zero => simp only [feRun]; omega
  | succ j ih =>
    simp only [feRun]
    split
    · simp only; omega
    · split
      · exact ih (by simp; omega) (by simp [h2])
      · simp
theorem feAll_len (xs ps : List Int) (t m : Int) : (feAll xs ps t m).1.length ≤ 10 ∧ (feAll xs ps t m).2.1.length = (feAll xs ps t m).1.length := by
  unfold feAll; split
  · rename_i h
    have hm : m ≤ 10 := by
      unfold feCode0 at h
      by_cases h1 : mCode xs ps = 0
      · rw [if_pos h1] at h
        by_cases h2 : feOk t m = true
        · simp only [feOk, Bool.and_eq_true, inR_iff] at h2; omega
        · rw [if_neg h2] at h; omega
      · rw [if_neg h1] at h; exact absurd h h1
    exact feRun_len (by simp; omega) rfl
  · simp
end Go.Proofs.Ytgfhmihnnjcagaa
