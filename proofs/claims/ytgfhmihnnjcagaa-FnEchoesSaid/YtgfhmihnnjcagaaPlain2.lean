/- plain functions: weights, correlations, peaks -/
import Derived.Test.YtgfhmihnnjcagaaLists
import Derived.Test.YtgfhmihnnjcagaaW1
set_option linter.unusedVariables false
set_option linter.unusedSimpArgs false
namespace Go.Proofs.Ytgfhmihnnjcagaa
open Go.RowKit

def wtTo (xs : List Int) : Nat → Int
  | 0 => 0
  | i + 1 => wtTo xs i + iabs (xs.getD i 0)
def corrTo (xs : List Int) (k : Nat) : Nat → Int
  | 0 => 0
  | i + 1 => corrTo xs k i + xs.getD i 0 * xs.getD (i + k) 0
def wt (xs : List Int) : Int := wtTo xs xs.length
def corr (xs : List Int) (k : Nat) : Int := corrTo xs k (xs.length - k)
def sideTo (xs : List Int) : Nat → Int
  | 0 => 0
  | i + 1 => max (sideTo xs i) (iabs (corr xs (i + 1)))
def side (xs : List Int) : Int := sideTo xs (xs.length - 1)
def peakTo (xs : List Int) : Nat → Nat
  | 0 => 0
  | i + 1 => if iabs (xs.getD (peakTo xs i) 0) < iabs (xs.getD i 0) then i else peakTo xs i
def peakIx (xs : List Int) : Nat := peakTo xs xs.length
def isSig (xs : List Int) : Bool := decide (xs.length ≤ 400) && allIn (-1000) 1000 xs
def Sig (xs : List Int) : Prop := ∀ x ∈ xs, -1000 ≤ x ∧ x ≤ 1000
theorem isSig_iff {xs : List Int} : isSig xs = true ↔ xs.length ≤ 400 ∧ Sig xs := by
  simp only [isSig, Bool.and_eq_true, decide_eq_true_eq]
  exact and_congr Iff.rfl allIn_iff
theorem Sig.at {xs : List Int} (h : Sig xs) (i : Nat) : -1000 ≤ xs.getD i 0 ∧ xs.getD i 0 ≤ 1000 := by
  by_cases hi : i < xs.length
  · exact h _ (List.mem_of_getElem? (getD_at hi))
  · rw [List.getD_eq_getElem?_getD, List.getElem?_eq_none (by omega)]; decide
theorem iabs_bd {x M : Int} (h : -M ≤ x ∧ x ≤ M) : 0 ≤ iabs x ∧ iabs x ≤ M := by unfold iabs; omega
theorem mul_bd {a b A B : Int} (ha : -A ≤ a ∧ a ≤ A) (hb : -B ≤ b ∧ b ≤ B) : -(A * B) ≤ a * b ∧ a * b ≤ A * B := by
  have hA : 0 ≤ A := by omega
  have hB : 0 ≤ B := by omega
  have h1 : a.natAbs ≤ A.toNat := by omega
  have h2 : b.natAbs ≤ B.toNat := by omega
  have h3 : (a * b).natAbs ≤ A.toNat * B.toNat := by rw [Int.natAbs_mul]; exact Nat.mul_le_mul h1 h2
  have h4 : ((A.toNat * B.toNat : Nat) : Int) = A * B := by rw [Int.natCast_mul, Int.toNat_of_nonneg hA, Int.toNat_of_nonneg hB]
  omega
theorem wtTo_bd {xs : List Int} (h : Sig xs) (i : Nat) : 0 ≤ wtTo xs i ∧ wtTo xs i ≤ 1000 * i := by
  induction i with
  | zero => simp [wtTo]
  | succ i ih => have := iabs_bd (h.at i); simp only [wtTo]; omega
theorem corrTo_bd {xs : List Int} (h : Sig xs) (k i : Nat) : -(1000000 * i) ≤ corrTo xs k i ∧ corrTo xs k i ≤ 1000000 * i := by
  induction i with
  | zero => simp [corrTo]
  | succ i ih => have := mul_bd (h.at i) (h.at (i + k)); simp only [corrTo]; omega
theorem corr_bd {xs : List Int} (h : Sig xs) (hl : xs.length ≤ 400) (k : Nat) : -400000000 ≤ corr xs k ∧ corr xs k ≤ 400000000 := by
  have := corrTo_bd h k (xs.length - k); unfold corr; omega
theorem sideTo_bd {xs : List Int} (h : Sig xs) (hl : xs.length ≤ 400) (i : Nat) : 0 ≤ sideTo xs i ∧ sideTo xs i ≤ 400000000 := by
  induction i with
  | zero => simp [sideTo]
  | succ i ih => have := iabs_bd (corr_bd h hl (i + 1)); simp only [sideTo]; omega
theorem peakTo_lt (xs : List Int) (i : Nat) (h : 0 < i) : peakTo xs i < i := by
  induction i with
  | zero => omega
  | succ i ih =>
    simp only [peakTo]
    split
    · omega
    · by_cases h0 : i = 0
      · subst h0; simp [peakTo]
      · have := ih (by omega); omega
end Go.Proofs.Ytgfhmihnnjcagaa
