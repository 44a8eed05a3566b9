/- plain: correlations, energy, a signal turned round -/
import Derived.Test.YtgfhmihnnjcagaaW4
import Derived.Test.YtgfhmihnnjcagaaW8
import Derived.Test.YtgfhmihnnjcagaaPlainFE
set_option linter.unusedVariables false
set_option linter.unusedSimpArgs false
namespace Go.Proofs.Ytgfhmihnnjcagaa
open Go.RowKit

/-- f 0 + .. + f (m - 1) -/
def sumN (f : Nat → Int) : Nat → Int
  | 0 => 0
  | i + 1 => sumN f i + f i
theorem sumN_congr {f g : Nat → Int} {m : Nat} (h : ∀ j, j < m → f j = g j) : sumN f m = sumN g m := by
  induction m with
  | zero => rfl
  | succ m ih => simp only [sumN]; rw [ih (fun j hj => h j (by omega)), h m (by omega)]
theorem sumN_cons (f : Nat → Int) (m : Nat) : sumN f (m + 1) = f 0 + sumN (fun j => f (j + 1)) m := by
  induction m with
  | zero => simp [sumN]
  | succ m ih =>
    have e : sumN f (m + 1 + 1) = sumN f (m + 1) + f (m + 1) := rfl
    rw [e, ih]; simp only [sumN]; omega
theorem sumN_rev (f : Nat → Int) (m : Nat) : sumN (fun j => f (m - 1 - j)) m = sumN f m := by
  induction m with
  | zero => rfl
  | succ m ih =>
    rw [sumN_cons]
    simp only [sumN]
    have e : sumN (fun j => f (m + 1 - 1 - (j + 1))) m = sumN (fun j => f (m - 1 - j)) m := sumN_congr (fun j hj => by congr 1; omega)
    rw [e, ih]; simp; omega
theorem corr_sum (xs : List Int) (k i : Nat) : corrTo xs k i = sumN (fun j => xs.getD j 0 * xs.getD (j + k) 0) i := by
  induction i with
  | zero => rfl
  | succ i ih => simp only [corrTo, sumN, ih]
def sqN (xs : List Int) (i : Nat) : Int := sumN (fun j => xs.getD j 0 * xs.getD j 0) i
theorem sqN_mono (xs : List Int) {i j : Nat} (h : i ≤ j) : sqN xs i ≤ sqN xs j := by
  induction j with
  | zero => rw [show i = 0 by omega]; exact Int.le_refl _
  | succ j ih =>
    rcases Nat.lt_or_ge i (j + 1) with h1 | h1
    · have := ih (by omega)
      have h2 := sq_nonneg (xs.getD j 0)
      simp only [sqN, sumN] at *; omega
    · rw [show i = j + 1 by omega]; exact Int.le_refl _
theorem sqN_nonneg (xs : List Int) (i : Nat) : 0 ≤ sqN xs i := sqN_mono xs (Nat.zero_le i)
theorem two_ab (a b : Int) : -(a * a + b * b) ≤ 2 * (a * b) ∧ 2 * (a * b) ≤ a * a + b * b := by
  have h1 := sq_nonneg (a - b)
  have h2 := sq_nonneg (a + b)
  have e1 : (a - b) * (a - b) = a * a + b * b - 2 * (a * b) := by grind
  have e2 : (a + b) * (a + b) = a * a + b * b + 2 * (a * b) := by grind
  omega
theorem corrTo_cs (xs : List Int) (k i : Nat) : -(sqN xs i + (sqN xs (i + k) - sqN xs k)) ≤ 2 * corrTo xs k i ∧ 2 * corrTo xs k i ≤ sqN xs i + (sqN xs (i + k) - sqN xs k) := by
  induction i with
  | zero => simp [corrTo, sqN, sumN]
  | succ i ih =>
    have h := two_ab (xs.getD i 0) (xs.getD (i + k) 0)
    have e1 : sqN xs (i + 1) = sqN xs i + xs.getD i 0 * xs.getD i 0 := rfl
    have e2 : sqN xs (i + 1 + k) = sqN xs (i + k) + xs.getD (i + k) 0 * xs.getD (i + k) 0 := by rw [show i + 1 + k = i + k + 1 by omega]; rfl
    simp only [corrTo]; omega
/-- the energy -/
theorem corr_zero (xs : List Int) : corr xs 0 = sqN xs xs.length := by
  unfold corr; rw [Nat.sub_zero, corr_sum]; rfl
theorem corr_le (xs : List Int) (k : Nat) : -corr xs 0 ≤ corr xs k ∧ corr xs k ≤ corr xs 0 := by
  rw [corr_zero]
  have h0 := sqN_nonneg xs xs.length
  have h := corrTo_cs xs k (xs.length - k)
  unfold corr
  by_cases hk : k ≤ xs.length
  · have h1 := sqN_mono xs (show xs.length - k ≤ xs.length by omega)
    have h2 := sqN_nonneg xs k
    rw [show xs.length - k + k = xs.length by omega] at h
    omega
  · rw [show xs.length - k = 0 by omega]; simp only [corrTo]; omega
theorem side_at (xs : List Int) {i m : Nat} (h : 1 ≤ i) (hi : i ≤ m) : iabs (corr xs i) ≤ sideTo xs m := by
  induction m with
  | zero => omega
  | succ m ih =>
    simp only [sideTo]
    rcases Nat.lt_or_ge i (m + 1) with h1 | h1
    · have := ih (by omega); omega
    · rw [show i = m + 1 by omega]; omega
theorem side_ge (xs : List Int) {i : Nat} (h : 1 ≤ i) (hi : i < xs.length) : iabs (corr xs i) ≤ side xs := side_at xs h (by omega)
theorem side_le (xs : List Int) : side xs ≤ corr xs 0 := by
  have h0 : 0 ≤ corr xs 0 := by rw [corr_zero]; exact sqN_nonneg _ _
  have : ∀ m, sideTo xs m ≤ corr xs 0 := fun m => by
    induction m with
    | zero => simpa [sideTo] using h0
    | succ m ih =>
      have := corr_le xs (m + 1)
      simp only [sideTo]; unfold iabs; omega
  exact this _
theorem rev_at {xs : List Int} {j : Nat} (h : j < xs.length) : xs.reverse.getD j 0 = xs.getD (xs.length - 1 - j) 0 := by
  rw [List.getD_eq_getElem?_getD, List.getD_eq_getElem?_getD, List.getElem?_reverse h]
theorem corr_rev (xs : List Int) (k : Nat) : corr xs.reverse k = corr xs k := by
  unfold corr
  rw [List.length_reverse, corr_sum, corr_sum, ← sumN_rev (fun j => xs.getD j 0 * xs.getD (j + k) 0)]
  refine sumN_congr (fun j hj => ?_)
  rw [rev_at (by omega), rev_at (by omega), Int.mul_comm]
  congr 2 <;> omega
theorem isSig_rev (xs : List Int) : isSig xs.reverse = isSig xs := by
  unfold isSig allIn; rw [List.length_reverse, List.all_reverse]
theorem cors_rev (xs : List Int) (k : Nat) : corrsTo xs.reverse k = corrsTo xs k := by
  unfold corrsTo; exact List.map_congr_left (fun j _ => corr_rev xs j)
theorem crVal_rev (xs : List Int) : crVal xs.reverse = crVal xs ∧ crCode xs.reverse = crCode xs := by
  unfold crVal crCode; rw [isSig_rev, List.length_reverse, cors_rev]; exact ⟨rfl, rfl⟩
theorem cors_at {xs : List Int} {n i : Nat} (h : i < n) : (corrsTo xs n).getD i 0 = corr xs i := by simp [corrsTo, h]
def tnVal (xs : List Int) : List Int := if isSig xs then xs.reverse else []
def enVal (xs : List Int) : Int := if isSig xs then corr xs 0 else 0
def sdVal (xs : List Int) : Int := if isSig xs then side xs else 0
/-- the first i and the last i exchanged -/
def revTo (ys : List Int) (i : Nat) : List Int := (List.range ys.length).map (fun k => if k < i ∨ ys.length ≤ k + i then ys.getD (ys.length - 1 - k) 0 else ys.getD k 0)
theorem revTo_len (ys : List Int) (i : Nat) : (revTo ys i).length = ys.length := by simp [revTo]
theorem revTo_at {ys : List Int} {i k : Nat} (h : k < ys.length) : (revTo ys i).getD k 0 = if k < i ∨ ys.length ≤ k + i then ys.getD (ys.length - 1 - k) 0 else ys.getD k 0 := by simp [revTo, h]
theorem revTo_zero (ys : List Int) : revTo ys 0 = ys := eq_of_getD (revTo_len _ _) (fun i hi => by rw [revTo_len] at hi; rw [revTo_at hi, if_neg (by omega)])
theorem revTo_end {ys : List Int} {i : Nat} (h : ys.length ≤ 2 * i + 1) : revTo ys i = ys.reverse := eq_of_getD (by rw [revTo_len, List.length_reverse]) (fun k hk => by
  rw [revTo_len] at hk
  rw [revTo_at hk, rev_at hk]
  by_cases h1 : k < i ∨ ys.length ≤ k + i
  · rw [if_pos h1]
  · rw [if_neg h1]; congr 1; omega)
theorem set_at {ys : List Int} {i k : Nat} {v : Int} (h : i < ys.length) : (ys.set i v).getD k 0 = if k = i then v else ys.getD k 0 := by
  by_cases e : k = i
  · subst e; rw [if_pos rfl]; simp [h]
  · rw [if_neg e]; simp [List.getD_eq_getElem?_getD, List.getElem?_set_ne (Ne.symm e)]
theorem revTo_up {ys : List Int} {i j : Nat} (hj : i + j + 1 = ys.length) (hij : i < j) : ((revTo ys i).set i (ys.getD j 0)).set j (ys.getD i 0) = revTo ys (i + 1) ∧ ((revTo ys i).set j (ys.getD i 0)).set i (ys.getD j 0) = revTo ys (i + 1) := by
  constructor
  · refine eq_of_getD (by simp [revTo_len]) (fun k hk => ?_)
    simp only [List.length_set, revTo_len] at hk
    rw [set_at (by rw [List.length_set, revTo_len]; omega), set_at (by rw [revTo_len]; omega), revTo_at hk, revTo_at hk]
    by_cases e1 : k = j
    · rw [if_pos e1, if_pos (by omega)]; congr 1; omega
    · rw [if_neg e1]
      by_cases e2 : k = i
      · rw [if_pos e2, if_pos (by omega)]; congr 1; omega
      · rw [if_neg e2]
        by_cases e3 : k < i ∨ ys.length ≤ k + i
        · rw [if_pos e3, if_pos (by omega)]
        · rw [if_neg e3, if_neg (by omega)]
  · refine eq_of_getD (by simp [revTo_len]) (fun k hk => ?_)
    simp only [List.length_set, revTo_len] at hk
    rw [set_at (by rw [List.length_set, revTo_len]; omega), set_at (by rw [revTo_len]; omega), revTo_at hk, revTo_at hk]
    by_cases e2 : k = i
    · rw [if_pos e2, if_pos (by omega)]; congr 1; omega
    · rw [if_neg e2]
      by_cases e1 : k = j
      · rw [if_pos e1, if_pos (by omega)]; congr 1; omega
      · rw [if_neg e1]
        by_cases e3 : k < i ∨ ys.length ≤ k + i
        · rw [if_pos e3, if_pos (by omega)]
        · rw [if_neg e3, if_neg (by omega)]
theorem revTo_in {ys : List Int} {i k : Nat} (h : k < ys.length) (h1 : i ≤ k) (h2 : k + i < ys.length) : (revTo ys i).getD k 0 = ys.getD k 0 := by rw [revTo_at h, if_neg (by omega)]
end Go.Proofs.Ytgfhmihnnjcagaa
