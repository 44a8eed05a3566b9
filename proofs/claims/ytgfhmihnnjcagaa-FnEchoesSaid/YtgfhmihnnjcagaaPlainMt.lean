/- plain: matches add up -/
import Derived.Test.YtgfhmihnnjcagaaW10
import Derived.Test.YtgfhmihnnjcagaaPlainCo
import Derived.Test.YtgfhmihnnjcagaaPlainFE
set_option linter.unusedVariables false
set_option linter.unusedSimpArgs false
namespace Go.Proofs.Ytgfhmihnnjcagaa
open Go.RowKit

theorem mtTo_add {xs os bs ps : List Int} {n k : Nat} (h : ∀ i, i < n → bs.getD i 0 = xs.getD i 0 + os.getD i 0) (i : Nat) (hk : k + i ≤ n) : mtTo bs ps k i = mtTo xs ps k i + mtTo os ps k i := by
  induction i with
  | zero => simp [mtTo]
  | succ i ih =>
    simp only [mtTo]
    rw [ih (by omega), h (k + i) (by omega), Int.mul_add]
    omega
theorem mt_add {xs os bs ps : List Int} {n k : Nat} (h : ∀ i, i < n → bs.getD i 0 = xs.getD i 0 + os.getD i 0) (hk : k + ps.length ≤ n) : mt bs ps k = mt xs ps k + mt os ps k := mtTo_add h _ hk
theorem mts_get {xs ps : List Int} {k : Nat} (h : k < (mts xs ps).length) : (mts xs ps).getD k 0 = mt xs ps k := by
  rw [mts_len] at h
  simp [mts, mtsTo, List.getD_eq_getElem?_getD, h]
/-- matches add up, element by element -/
theorem mts_add {xs os bs ps : List Int} (ho : os.length = xs.length) (hb : bs.length = xs.length) (hp : ps.length ≤ xs.length) (h : ∀ i, i < xs.length → bs.getD i 0 = xs.getD i 0 + os.getD i 0) {k : Nat} (hk : k < (mts xs ps).length) :
    (mts bs ps).getD k 0 = (mts xs ps).getD k 0 + (mts os ps).getD k 0 := by
  have h1 := hk
  rw [mts_len] at h1
  rw [mts_get hk, mts_get (by rw [mts_len]; omega), mts_get (by rw [mts_len]; omega)]
  exact mt_add h (by omega)
theorem mtTo_self (ps : List Int) (i : Nat) : mtTo ps ps 0 i = corrTo ps 0 i := by
  induction i with
  | zero => rfl
  | succ i ih => simp only [mtTo, corrTo, ih, Nat.zero_add, Nat.add_zero]
/-- the match of a pulse with itself is its energy -/
theorem mts_self (ps : List Int) : mts ps ps = [corr ps 0] := by
  unfold mts mtsTo
  rw [show ps.length - ps.length + 1 = 1 by omega]
  show [mt ps ps 0] = [corr ps 0]
  unfold mt corr
  rw [mtTo_self, Nat.sub_zero]
theorem mCode_ok {xs ps : List Int} (h : isSig xs = true) (h2 : isSig ps = true) (h3 : 1 ≤ ps.length) (h4 : ps.length ≤ xs.length) : mCode xs ps = 0 := by
  unfold mCode
  rw [if_pos (by rw [h, h2]; rfl), if_neg (by omega)]
theorem mCode_sum {bs ps : List Int} (h2 : isSig ps = true) (h3 : 1 ≤ ps.length) (h4 : ps.length ≤ bs.length) : (mCode bs ps = 0 ∧ isSig bs = true) ∨ (mCode bs ps = 1 ∧ isSig bs = false) := by
  rcases Bool.eq_false_or_eq_true (isSig bs) with h | h
  · exact .inl ⟨mCode_ok h h2 h3 h4, h⟩
  · exact .inr ⟨by unfold mCode; rw [h]; rfl, h⟩
theorem small_sig {os : List Int} (h : os.length ≤ 400) (hb : ∀ x ∈ os, -4 ≤ x ∧ x ≤ 4) : isSig os = true := isSig_iff.2 ⟨h, fun x hx => by have := hb x hx; omega⟩
end Go.Proofs.Ytgfhmihnnjcagaa
