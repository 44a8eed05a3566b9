/- plain functions: what the Go functions of this layer compute -/
import Derived.Below
import Derived.IntWalk
set_option linter.unusedVariables false
set_option linter.unusedSimpArgs false
namespace Go.Proofs.Ytoaldcibmcmfdaa
open Go.RowKit

def inR (x lo hi : Int) : Bool := decide (lo ≤ x) && decide (x ≤ hi)
theorem inR_iff {x lo hi : Int} : inR x lo hi = true ↔ lo ≤ x ∧ x ≤ hi := by simp [inR]
theorem inR_not {x lo hi : Int} : inR x lo hi = false ↔ x < lo ∨ hi < x := by simp [inR]; omega
/-- cases of n scans with exactly k detections -/
def ex : Nat → Int → Int → Int
  | 0, _, k => if k = 0 then 1 else 0
  | n + 1, a, k => if k < 0 ∨ (n : Int) + 1 < k then 0 else a * ex n a (k - 1) + (16 - a) * ex n a k
def p16 : Nat → Int
  | 0 => 1
  | n + 1 => 16 * p16 n
theorem ex_neg (n : Nat) (a k : Int) (h : k < 0) : ex n a k = 0 := by
  cases n with
  | zero => unfold ex; rw [if_neg (by omega)]
  | succ n => unfold ex; rw [if_pos (.inl h)]
theorem ex_big (n : Nat) (a k : Int) (h : (n : Int) < k) : ex n a k = 0 := by
  cases n with
  | zero => unfold ex; rw [if_neg (by omega)]
  | succ n => unfold ex; rw [if_pos (.inr (by omega))]
theorem ex_succ (n : Nat) (a k : Int) : ex (n + 1) a k = a * ex n a (k - 1) + (16 - a) * ex n a k := by
  conv => lhs; unfold ex
  by_cases h : k < 0 ∨ (n : Int) + 1 < k
  · rw [if_pos h]
    rcases h with h | h
    · rw [ex_neg n a _ (by omega), ex_neg n a _ h]; simp
    · rw [ex_big n a _ (by omega), ex_big n a _ (by omega)]; simp
  · rw [if_neg h]
theorem ex_nonneg (n : Nat) (a k : Int) (h0 : 0 ≤ a) (h1 : a ≤ 16) : 0 ≤ ex n a k := by
  induction n generalizing k with
  | zero => unfold ex; split <;> omega
  | succ n ih =>
    rw [ex_succ]
    have := Int.mul_nonneg h0 (ih (k - 1))
    have := Int.mul_nonneg (show 0 ≤ 16 - a by omega) (ih k)
    omega
/-- the first j of them, from 0 on -/
def exSum (n : Nat) (a : Int) : Nat → Int
  | 0 => 0
  | j + 1 => exSum n a j + ex n a j
theorem exSum_succ (n : Nat) (a : Int) (j : Nat) : exSum (n + 1) a (j + 1) = a * exSum n a j + (16 - a) * exSum n a (j + 1) := by
  induction j with
  | zero =>
    show 0 + ex (n + 1) a ((0 : Nat) : Int) = a * 0 + (16 - a) * (0 + ex n a ((0 : Nat) : Int))
    rw [ex_succ, ex_neg n a _ (by omega)]; simp
  | succ j ih =>
    show exSum (n + 1) a (j + 1) + ex (n + 1) a ((j + 1 : Nat) : Int) = a * (exSum n a j + ex n a (j : Int)) + (16 - a) * (exSum n a (j + 1) + ex n a ((j + 1 : Nat) : Int))
    rw [ih, ex_succ, Int.mul_add, Int.mul_add, show ((j + 1 : Nat) : Int) - 1 = (j : Int) by omega]
    omega
theorem exSum_all (n : Nat) (a : Int) (j : Nat) (h : n < j) : exSum n a j = p16 n := by
  induction n generalizing j with
  | zero =>
    obtain ⟨i, rfl⟩ : ∃ i, j = i + 1 := ⟨j - 1, by omega⟩
    clear h
    induction i with
    | zero => simp [exSum, ex, p16]
    | succ i ih => rw [exSum, ih, ex_big 0 a _ (by omega)]; simp
  | succ n ih =>
    obtain ⟨i, rfl⟩ : ∃ i, j = i + 1 := ⟨j - 1, by omega⟩
    rw [exSum_succ, ih i (by omega), ih (i + 1) (by omega), p16, ← Int.add_mul]
    rw [show a + (16 - a) = 16 by omega]
theorem exSum_le (n : Nat) (a : Int) (h0 : 0 ≤ a) (h1 : a ≤ 16) (i j : Nat) (h : i ≤ j) : exSum n a i ≤ exSum n a j := by
  induction j with
  | zero => have : i = 0 := by omega
            subst this; exact Int.le_refl _
  | succ j ih =>
    rcases Nat.lt_or_ge j i with hlt | hge
    · have : i = j + 1 := by omega
      subst this; exact Int.le_refl _
    · have := ih hge
      have := ex_nonneg n a j h0 h1
      show _ ≤ exSum n a j + ex n a j
      omega
/-- cases with at least m detections -/
def tail (n : Nat) (a : Int) (m : Nat) : Int := p16 n - exSum n a m
theorem p16_pos (n : Nat) : 1 ≤ p16 n := by
  induction n with
  | zero => decide
  | succ n ih => unfold p16; omega
theorem p16_le (n : Nat) (h : n ≤ 12) : p16 n ≤ 281474976710656 := by
  have key : ∀ i j : Nat, i ≤ j → p16 i ≤ p16 j := by
    intro i j hij
    induction j with
    | zero => have : i = 0 := by omega
              subst this; exact Int.le_refl _
    | succ j ih =>
      rcases Nat.lt_or_ge j i with hlt | hge
      · have : i = j + 1 := by omega
        subst this; exact Int.le_refl _
      · have h1 := ih hge
        have h2 := p16_pos j
        show p16 i ≤ 16 * p16 j
        omega
  exact Int.le_trans (key n 12 h) (by decide)
theorem exSum_nonneg (n : Nat) (a : Int) (h0 : 0 ≤ a) (h1 : a ≤ 16) (j : Nat) : 0 ≤ exSum n a j := exSum_le n a h0 h1 0 j (Nat.zero_le _)
theorem exSum_top (n : Nat) (a : Int) (h0 : 0 ≤ a) (h1 : a ≤ 16) (j : Nat) : exSum n a j ≤ p16 n := by
  rcases Nat.lt_or_ge n j with h | h
  · rw [exSum_all n a j h]; exact Int.le_refl _
  · rw [← exSum_all n a (n + 1) (by omega)]; exact exSum_le n a h0 h1 j (n + 1) (by omega)
theorem tail_bd (n : Nat) (a : Int) (h0 : 0 ≤ a) (h1 : a ≤ 16) (m : Nat) : 0 ≤ tail n a m ∧ tail n a m ≤ p16 n := by
  have := exSum_top n a h0 h1 m
  have := exSum_nonneg n a h0 h1 m
  unfold tail; omega
theorem tail_step (n : Nat) (a : Int) (m : Nat) : tail n a m = ex n a m + tail n a (m + 1) := by
  unfold tail
  show _ = _ + (p16 n - (exSum n a m + ex n a m))
  omega
theorem tail_end (n : Nat) (a : Int) (m : Nat) (h : n < m) : tail n a m = 0 := by
  unfold tail; rw [exSum_all n a m h]; omega
end Go.Proofs.Ytoaldcibmcmfdaa
