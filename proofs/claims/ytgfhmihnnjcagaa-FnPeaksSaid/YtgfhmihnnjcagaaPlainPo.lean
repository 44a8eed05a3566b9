/- plain: what is true of peaks -/
import Derived.Test.YtgfhmihnnjcagaaW18
import Derived.Test.YtgfhmihnnjcagaaW19
import Derived.Test.YtgfhmihnnjcagaaW21
import Derived.Test.YtgfhmihnnjcagaaPlainCo
set_option linter.unusedVariables false
set_option linter.unusedSimpArgs false
namespace Go.Proofs.Ytgfhmihnnjcagaa
open Go.RowKit

theorem peakTo_max (xs : List Int) {i j : Nat} (h : j < i) : iabs (xs.getD j 0) ≤ iabs (xs.getD (peakTo xs i) 0) := by
  induction i with
  | zero => omega
  | succ i ih =>
    simp only [peakTo]
    rcases Nat.lt_or_ge j i with h1 | h1
    · have := ih h1
      split
      · omega
      · exact this
    · obtain rfl : j = i := by omega
      split
      · exact Int.le_refl _
      · omega
theorem peakIx_max {xs : List Int} {j : Nat} (h : j < xs.length) : iabs (xs.getD j 0) ≤ iabs (xs.getD (peakIx xs) 0) := peakTo_max xs h
theorem peakIx_lt {xs : List Int} (h : 0 < xs.length) : peakIx xs < xs.length := peakTo_lt xs _ h
/-- chosen peaks lie apart -/
theorem pTo_apart {xs : List Int} {t g : Int} (ht : 1 ≤ t) (k : Nat) : (pTo xs t g k).Pairwise (fun a b => g < iabs (a - b)) := by
  induction k with
  | zero => exact List.Pairwise.nil
  | succ k ih =>
    simp only [pTo]
    split
    · exact ih
    · rename_i h
      rcases pNext_peak (xs := xs) (cs := pTo xs t g k) (g := g) ht (Nat.le_refl _) with ⟨e, _⟩ | ⟨e, _, _, hn⟩
      · omega
      · rw [List.pairwise_append]
        refine ⟨ih, List.pairwise_singleton _ _, fun a ha b hb => ?_⟩
        obtain rfl : b = _ := List.mem_singleton.1 hb
        rw [e]
        unfold pNear at hn
        rw [List.any_eq_false] at hn
        have h2 := hn a ha
        simp only [decide_eq_true_eq] at h2
        omega
theorem pTo_mem {xs : List Int} {t g : Int} (ht : 1 ≤ t) {k : Nat} {c : Int} (h : c ∈ pTo xs t g k) : ∃ j : Nat, c = j ∧ j < xs.length ∧ t ≤ iabs (xs.getD j 0) := by
  induction k with
  | zero => cases h
  | succ k ih =>
    simp only [pTo] at h
    split at h
    · exact ih h
    · rename_i h0
      rcases List.mem_append.1 h with h | h
      · exact ih h
      · obtain rfl : c = _ := List.mem_singleton.1 h
        rcases pNext_peak (xs := xs) (cs := pTo xs t g k) (g := g) ht (Nat.le_refl _) with ⟨e, _⟩ | ⟨e, hl, hge, hn⟩
        · omega
        · refine ⟨_, e, hl, ?_⟩
          rw [pMask_at hl, hn, if_neg (by decide)] at hge
          exact hge
theorem iabs_sub (a b : Int) : iabs (a - b) = iabs (b - a) := by unfold iabs; omega
theorem srt_apart {xs : List Int} {g : Int} (h : xs.Pairwise (fun a b => g < iabs (a - b))) {i : Nat} (hi : i + 1 < xs.length) : g < (srt xs).getD (i + 1) 0 - (srt xs).getD i 0 := by
  have h2 : (srt xs).Pairwise (fun a b => g < iabs (a - b)) := (srt_perm xs).symm.pairwise h (fun {a b} hab => by rw [iabs_sub]; exact hab)
  have hl := srt_len xs
  have h3 := List.pairwise_iff_getElem.1 h2 i (i + 1) (by omega) (by omega) (by omega)
  have h4 := srt_mono (xs := xs) (i := i) (j := i + 1) (by omega) hi
  have e1 : (srt xs).getD i 0 = (srt xs)[i]'(by omega) := by simp [show i < (srt xs).length by omega]
  have e2 : (srt xs).getD (i + 1) 0 = (srt xs)[i + 1]'(by omega) := by simp [show i + 1 < (srt xs).length by omega]
  rw [← e1, ← e2] at h3
  unfold iabs at h3; omega
theorem pTo_grow {xs : List Int} {t g : Int} {k m : Nat} (h : k ≤ m) {c : Int} (hc : c ∈ pTo xs t g k) : c ∈ pTo xs t g m := by
  induction m with
  | zero => rwa [show k = 0 by omega] at hc
  | succ m ih =>
    rcases Nat.lt_or_ge k (m + 1) with h1 | h1
    · have := ih (by omega)
      simp only [pTo]; split
      · exact this
      · exact List.mem_append_left _ this
    · rwa [show k = m + 1 by omega] at hc
/-- the peak itself is chosen, if it is great enough -/
theorem peak_in {xs : List Int} {t g : Int} (ht : 1 ≤ t) (h0 : 0 < xs.length) (h : t ≤ iabs (xs.getD (peakIx xs) 0)) : (peakIx xs : Int) ∈ srt (pFin xs t g) := by
  have h1 := pGo (xs := xs) (cs := []) (t := t) (g := g) ht h0 (by rw [pMask_nil]; exact h)
  rw [pMask_nil] at h1
  refine (srt_perm _).symm.subset ?_
  refine pTo_grow (k := 1) (by omega) ?_
  have h2 : pTo xs t g 1 = pTo xs t g 0 ++ [pNext xs (pTo xs t g 0) t g xs.length] := pTo_step (by show 0 ≤ pNext xs [] t g xs.length; rw [h1.1]; omega)
  rw [h2]
  show _ ∈ [] ++ [pNext xs [] t g xs.length]
  rw [h1.1]; simp
theorem poCode_zero {xs : List Int} {t g : Int} (h : poCode xs t g = 0) : isTrc xs = true ∧ 1 ≤ t ∧ t ≤ 1000000000000 ∧ 0 ≤ g ∧ g ≤ 400 ∧ poVal xs t g = srt (pFin xs t g) := by
  unfold poCode at h
  by_cases h1 : isTrc xs = true
  · rw [if_pos h1] at h
    by_cases h2 : pkOk t g = true
    · have h3 := h2
      simp only [pkOk, Bool.and_eq_true, inR_iff] at h3
      exact ⟨h1, h3.1.1, h3.1.2, h3.2.1, h3.2.2, (po_yes h1 h2).1⟩
    · rw [if_neg h2] at h; omega
  · rw [if_neg h1] at h; omega
theorem poVal_at {xs : List Int} {t g : Int} (h : poCode xs t g = 0) {i : Nat} (hi : i < (poVal xs t g).length) : ∃ j : Nat, (poVal xs t g).getD i 0 = j ∧ j < xs.length ∧ t ≤ iabs (xs.getD j 0) := by
  obtain ⟨_, t1, _, _, _, e⟩ := poCode_zero h
  have hm : (poVal xs t g).getD i 0 ∈ poVal xs t g := List.mem_of_getElem? (getD_at hi)
  rw [e] at hm ⊢
  exact pTo_mem t1 ((srt_perm _).subset hm)
theorem poVal_apart {xs : List Int} {t g : Int} (h : poCode xs t g = 0) {i : Nat} (hi : i + 1 < (poVal xs t g).length) : g < (poVal xs t g).getD (i + 1) 0 - (poVal xs t g).getD i 0 := by
  obtain ⟨_, t1, _, _, _, e⟩ := poCode_zero h
  rw [e] at hi ⊢
  rw [srt_len] at hi
  exact srt_apart (pTo_apart t1 _) hi
theorem pk_ok {xs : List Int} (h : pkCode xs = 0) : isTrc xs = true ∧ 0 < xs.length ∧ pkVal xs = peakIx xs := by
  unfold pkCode at h
  by_cases h1 : isTrc xs = true
  · rw [if_pos h1] at h
    by_cases h2 : xs.length = 0
    · rw [if_pos h2] at h; omega
    · exact ⟨h1, by omega, by unfold pkVal; rw [if_pos h1, if_neg h2]⟩
  · rw [if_neg h1] at h; omega
end Go.Proofs.Ytgfhmihnnjcagaa
