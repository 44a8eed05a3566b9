/- plain lemmas on lists of numbers -/
import Derived.Test.YtoccglmlpobeeaaPlain
set_option linter.unusedVariables false
set_option linter.unusedSimpArgs false
namespace Go.Proofs.Ytoccglmlpobeeaa
open Go.RowKit

theorem getD_at {xs : List Int} {k : Nat} (h : k < xs.length) : xs[k]? = some (xs.getD k 0) := by simp [h]
theorem take_snoc {xs : List Int} {k : Nat} (h : k < xs.length) : xs.take (k + 1) = xs.take k ++ [xs.getD k 0] := by
  rw [List.take_succ_eq_append_getElem h]; simp [h]
def allIn (lo hi : Int) (xs : List Int) : Bool := xs.all (fun x => inR x lo hi)
theorem allIn_iff {lo hi : Int} {xs : List Int} : allIn lo hi xs = true ↔ ∀ x ∈ xs, lo ≤ x ∧ x ≤ hi := by
  unfold allIn; rw [List.all_eq_true]
  exact ⟨fun h x hx => by have := h x hx; simpa [inR] using this, fun h x hx => by have := h x hx; simpa [inR] using this⟩
theorem allIn_snoc {lo hi : Int} {xs : List Int} {k : Nat} (h : k < xs.length) (ha : allIn lo hi (xs.take k) = true) (hx : inR (xs.getD k 0) lo hi = true) : allIn lo hi (xs.take (k + 1)) = true := by
  rw [take_snoc h]; unfold allIn at *; rw [List.all_append, ha]; simpa using hx
theorem allIn_out {lo hi : Int} {xs : List Int} {k : Nat} (h : k < xs.length) (hx : inR (xs.getD k 0) lo hi = false) : allIn lo hi xs = false := by
  unfold allIn; rw [List.all_eq_false]
  refine ⟨xs.getD k 0, List.mem_of_getElem? (getD_at h), by rw [hx]; decide⟩
theorem allIn_all {lo hi : Int} {xs : List Int} {n : Nat} (hn : xs.length = n) (ha : allIn lo hi (xs.take n) = true) : allIn lo hi xs = true := by
  rwa [List.take_of_length_le (by omega)] at ha
theorem allIn_getD {lo hi : Int} {xs : List Int} {k : Nat} (ha : allIn lo hi xs = true) (h : k < xs.length) : lo ≤ xs.getD k 0 ∧ xs.getD k 0 ≤ hi :=
  allIn_iff.1 ha _ (List.mem_of_getElem? (getD_at h))
theorem eq_of_getD {xs ys : List Int} (hl : xs.length = ys.length) (h : ∀ i, i < xs.length → xs.getD i 0 = ys.getD i 0) : xs = ys := by
  apply List.ext_getElem? 
  intro i
  by_cases hi : i < xs.length
  · rw [getD_at hi, getD_at (by omega), h i hi]
  · rw [List.getElem?_eq_none (by omega), List.getElem?_eq_none (by omega)]
theorem ne_of_getD {xs ys : List Int} {i : Nat} (h : xs.getD i 0 ≠ ys.getD i 0) : xs ≠ ys := fun e => h (by rw [e])
/-- the sum of a list, without wraps -/
def lsum : List Int → Int
  | [] => 0
  | x :: r => x + lsum r
theorem lsum_append (xs ys : List Int) : lsum (xs ++ ys) = lsum xs + lsum ys := by
  induction xs with
  | nil => simp [lsum]
  | cons x r ih => simp only [List.cons_append, lsum, ih]; omega
theorem lsum_snoc {xs : List Int} {k : Nat} (h : k < xs.length) : lsum (xs.take (k + 1)) = lsum (xs.take k) + xs.getD k 0 := by
  rw [take_snoc h, lsum_append]; simp [lsum]
theorem lsum_bd {xs : List Int} {M : Int} (h0 : 0 ≤ M) (h : ∀ x ∈ xs, -M ≤ x ∧ x ≤ M) : -(M * xs.length) ≤ lsum xs ∧ lsum xs ≤ M * xs.length := by
  induction xs with
  | nil => simp [lsum]
  | cons x r ih =>
    have h1 := ih (fun y hy => h y (List.mem_cons_of_mem _ hy))
    have h2 := h x (List.mem_cons_self ..)
    simp only [lsum, List.length_cons, Int.natCast_add, Int.mul_add]
    omega
end Go.Proofs.Ytoccglmlpobeeaa
