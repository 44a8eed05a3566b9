/- plain functions: the best beam -/
import Derived.Test.YtfmhbphbgdijpaaPlainD
import Derived.Test.YtfmhbphbgdijpaaPlainB
set_option linter.unusedVariables false
set_option linter.unusedSimpArgs false
namespace Go.Proofs.Ytfmhbphbgdijpaa
open Go.RowKit

def allDir (f g e : Nat → Int) : Nat → Bool
  | 0 => true
  | k + 1 => allDir f g e k && isDir (f k) (g k) (e k)
theorem allDir_out {f g e : Nat → Int} {k n : Nat} (h : isDir (f k) (g k) (e k) = false) (hk : k < n) : allDir f g e n = false := by
  induction n with
  | zero => omega
  | succ n ih =>
    by_cases q : k = n
    · subst q; simp only [allDir, h, Bool.and_false]
    · simp only [allDir, ih (by omega), Bool.false_and]
theorem allDir_at {f g e : Nat → Int} {n : Nat} (h : allDir f g e n = true) {k : Nat} (hk : k < n) : isDir (f k) (g k) (e k) = true := by
  cases q : isDir (f k) (g k) (e k) with
  | true => rfl
  | false => rw [allDir_out q hk] at h; cases h
/-- delays of a valid direction are small -/
theorem dly_small {c s h r v x : Int} (hd : isDir c s h = true) (hr : 1 ≤ r ∧ r ≤ 100000) (hv : 1300000 ≤ v ∧ v ≤ 1700000) (hx : -10000 ≤ x ∧ x ≤ 10000) :
    -10001 ≤ near (x * (10 * r * s)) (h * v) ∧ near (x * (10 * r * s)) (h * v) ≤ 10001 := by
  have hb := isDir_bd hd
  simp only [isDir, Bool.and_eq_true, beq_iff_eq] at hd
  have hl := leg_le (c := s) (s := c) (h := h) (by omega) (by rw [Int.add_comm]; exact hd.1.2)
  have hden := den_bd hb.2.2 hv
  have h1 := bd_mul (a := 10 * r) (b := s) (A := 1000000) (B := h) (by omega) hl
  have h2 : 1300000 * h ≤ h * v := by
    have := Int.mul_le_mul_of_nonneg_left hv.1 (show 0 ≤ h by omega)
    omega
  have h3 := bd_mul (a := x) (b := 10 * r * s) (A := 10000) (B := h * v) hx (by omega)
  have h4 := near_err (a := x * (10 * r * s)) (b := h * v) (by omega)
  generalize near (x * (10 * r * s)) (h * v) = q at *
  generalize h * v = den at *
  generalize x * (10 * r * s) = a at *
  constructor
  · rcases Int.lt_or_le q (-10001) with hq | hq
    · exfalso
      have h5 : q * den ≤ (-10002) * den := Int.mul_le_mul_of_nonneg_right (by omega) (by omega)
      omega
    · exact hq
  · rcases Int.lt_or_le 10001 q with hq | hq
    · exfalso
      have h5 : 10002 * den ≤ q * den := Int.mul_le_mul_of_nonneg_right (by omega) (by omega)
      omega
    · exact hq
theorem dlys_small {c s h r v : Int} {xs : List Int} (hd : isDir c s h = true) (hr : 1 ≤ r ∧ r ≤ 100000) (hv : 1300000 ≤ v ∧ v ≤ 1700000) (hx : Bd 10000 xs) : Bd 1000000 (dlys xs (10 * r * s) (h * v)) := fun k => by
  by_cases hk : k < xs.length
  · rw [dlys_at hk]
    have := dly_small hd hr hv (hx k); omega
  · rw [List.getD_eq_getElem?_getD, List.getElem?_eq_none (by rw [dlys_len]; omega)]; simp
theorem corrTo_nn (xs : List Int) (i : Nat) : 0 ≤ corrTo xs 0 i := by
  induction i with
  | zero => exact Int.le_refl _
  | succ i ih =>
    simp only [corrTo, Nat.add_zero]
    have : 0 ≤ xs.getD i 0 * xs.getD i 0 := by
      rcases Int.le_total 0 (xs.getD i 0) with h | h
      · exact Int.mul_nonneg h h
      · exact Int.mul_nonneg_of_nonpos_of_nonpos h h
    omega
theorem corr_nn (xs : List Int) : 0 ≤ corr xs 0 := corrTo_nn _ _
theorem corr_le {xs : List Int} (h : Bd 12000 xs) (hl : xs.length ≤ 400) : corr xs 0 ≤ 57600000000 := by
  have := corrTo_bd h 0 xs.length
  unfold corr; rw [Nat.sub_zero]; omega
/-- the power of the k-th beam -/
def bbPw (rows : List (List Int)) (xs : List Int) (r v : Int) (g e : Nat → Int) (k : Nat) : Int := corr (bVal rows (dlys xs (10 * r * g k) (e k * v))) 0
def bbTo (rows : List (List Int)) (xs : List Int) (r v : Int) (g e : Nat → Int) : Nat → Nat × Int
  | 0 => (0, -1)
  | k + 1 => if (bbTo rows xs r v g e k).2 < bbPw rows xs r v g e k then (k, bbPw rows xs r v g e k) else bbTo rows xs r v g e k
theorem bbPw_nn (rows : List (List Int)) (xs : List Int) (r v : Int) (g e : Nat → Int) (k : Nat) : 0 ≤ bbPw rows xs r v g e k := corr_nn _
theorem bbTo_bd (rows : List (List Int)) (xs : List Int) (r v : Int) (g e : Nat → Int) (k : Nat) : (bbTo rows xs r v g e k).1 ≤ k ∧ -1 ≤ (bbTo rows xs r v g e k).2 := by
  induction k with
  | zero => exact ⟨Nat.le_refl _, Int.le_refl _⟩
  | succ k ih =>
    have := bbPw_nn rows xs r v g e k
    simp only [bbTo]; split
    · dsimp only; omega
    · omega
theorem bbTo_pos (rows : List (List Int)) (xs : List Int) (r v : Int) (g e : Nat → Int) {k : Nat} (h : 0 < k) : 0 ≤ (bbTo rows xs r v g e k).2 := by
  obtain ⟨j, rfl⟩ : ∃ j, k = j + 1 := ⟨k - 1, by omega⟩
  have := bbPw_nn rows xs r v g e j
  simp only [bbTo]; split
  · dsimp only; exact this
  · omega
def bbCode (rows : List (List Int)) (xs : List Int) (m : Nat) (f g e : Nat → Int) (r v : Int) : Int :=
  if isChans rows && isArr xs && allDir f g e m then (if okWave r v && decide (xs.length = rows.length) && decide (m ≤ 40) then (if m = 0 then 4 else 0) else 2) else 1
def bbVal (rows : List (List Int)) (xs : List Int) (m : Nat) (f g e : Nat → Int) (r v : Int) : Int := if bbCode rows xs m f g e r v = 0 then (bbTo rows xs r v g e m).1 else 0
theorem bb_no {rows : List (List Int)} {xs : List Int} {m : Nat} {f g e : Nat → Int} {r v z : Int} (h0 : bbCode rows xs m f g e r v = z) (hz : z ≠ 0) : bbVal rows xs m f g e r v = 0 ∧ bbCode rows xs m f g e r v = z := ⟨by unfold bbVal; rw [if_neg (by rw [h0]; exact hz)], h0⟩
end Go.Proofs.Ytfmhbphbgdijpaa
