/- plain functions: directions, waves, delays -/
import Derived.Test.YtfmhbphbgdijpaaNum
import Derived.Test.YtfmhbphbgdijpaaPlain2
import Derived.Test.YtfmhbphbgdijpaaPlainB
set_option linter.unusedVariables false
set_option linter.unusedSimpArgs false
namespace Go.Proofs.Ytfmhbphbgdijpaa
open Go.RowKit

def isDir (c s h : Int) : Bool := inR h 1 1000 && inR c 1 1000 && inR s (-1000) 1000 && (s != 0) && (c * c + s * s == h * h) && ((Int.gcd ((Int.gcd c s : Nat) : Int) h : Nat) == 1)
theorem gcd_bd (a b : Int) (h : 1 ≤ a ∧ a ≤ 1000) : (0 : Int) ≤ (Int.gcd a b : Nat) ∧ ((Int.gcd a b : Nat) : Int) ≤ 1000 := by
  have h1 : Int.gcd a b ≤ a.natAbs := Nat.gcd_le_left _ (by omega)
  omega
theorem gcd_one {x : Nat} : (((x : Nat) : Int) == 1) = (x == 1) := by
  by_cases h : x = 1
  · subst h; rfl
  · rw [beq_eq_false_iff_ne.2 h, beq_eq_false_iff_ne.2 (by omega)]
/-- on a circle: the legs are at most the hypotenuse -/
theorem leg_le {c s h : Int} (h0 : 0 ≤ h) (e : c * c + s * s = h * h) : -h ≤ c ∧ c ≤ h := by
  have hs : 0 ≤ s * s := by
    rcases Int.le_total 0 s with h | h
    · exact Int.mul_nonneg h h
    · exact Int.mul_nonneg_of_nonpos_of_nonpos h h
  constructor
  · rcases Int.lt_or_le c (-h) with hl | hl
    · exfalso
      have h2 : (h + 1) * (h + 1) ≤ (-c) * (-c) := Int.mul_le_mul (by omega) (by omega) (by omega) (by omega)
      rw [Int.neg_mul_neg] at h2
      have h3 : (h + 1) * (h + 1) = h * h + 2 * h + 1 := by grind
      omega
    · exact hl
  · rcases Int.lt_or_le h c with hl | hl
    · exfalso
      have h2 : (h + 1) * (h + 1) ≤ c * c := Int.mul_le_mul (by omega) (by omega) (by omega) (by omega)
      have h3 : (h + 1) * (h + 1) = h * h + 2 * h + 1 := by grind
      omega
    · exact hl
def okWave (r v : Int) : Bool := inR r 1 100000 && inR v 1300000 1700000
def wvCode (xs : List Int) (c s h r v : Int) : Int := if isArr xs && isDir c s h then (if okWave r v then 0 else 2) else 1
/-- what a valid wave is good for -/
def Wave (xs : List Int) (c s h r v : Int) : Prop := (1 ≤ xs.length ∧ xs.length ≤ 12) ∧ Bd 10000 xs ∧ (1 ≤ c ∧ c ≤ 1000) ∧ (-1000 ≤ s ∧ s ≤ 1000) ∧ (1 ≤ h ∧ h ≤ 1000) ∧ (1 ≤ r ∧ r ≤ 100000) ∧ (1300000 ≤ v ∧ v ≤ 1700000)
theorem isDir_bd {c s h : Int} (hd : isDir c s h = true) : (1 ≤ c ∧ c ≤ 1000) ∧ (-1000 ≤ s ∧ s ≤ 1000) ∧ (1 ≤ h ∧ h ≤ 1000) := by
  simp only [isDir, Bool.and_eq_true] at hd
  exact ⟨inR_iff.1 hd.1.1.1.1.2, inR_iff.1 hd.1.1.1.2, inR_iff.1 hd.1.1.1.1.1⟩
theorem isArr_bd {xs : List Int} (ha : isArr xs = true) : (1 ≤ xs.length ∧ xs.length ≤ 12) ∧ Bd 10000 xs := by
  simp only [isArr, Bool.and_eq_true, decide_eq_true_eq] at ha
  exact ⟨⟨ha.1.1.1, ha.1.1.2⟩, Bd.of (by omega) (allIn_iff.1 ha.1.2)⟩
theorem wvCode_zero {xs : List Int} {c s h r v : Int} (hz : wvCode xs c s h r v = 0) : Wave xs c s h r v := by
  unfold wvCode at hz
  by_cases h1 : (isArr xs && isDir c s h) = true
  · rw [if_pos h1] at hz
    by_cases h2 : okWave r v = true
    · simp only [Bool.and_eq_true] at h1
      have ha := isArr_bd h1.1
      have hd := isDir_bd h1.2
      simp only [okWave, Bool.and_eq_true] at h2
      exact ⟨ha.1, ha.2, hd.1, hd.2.1, hd.2.2, inR_iff.1 h2.1, inR_iff.1 h2.2⟩
    · rw [if_neg h2] at hz; omega
  · rw [if_neg h1] at hz; omega
theorem num_bd {r s : Int} (hr : 1 ≤ r ∧ r ≤ 100000) (hs : -1000 ≤ s ∧ s ≤ 1000) : -1000000000 ≤ 10 * r * s ∧ 10 * r * s ≤ 1000000000 := by
  have := bd_mul (a := 10 * r) (b := s) (A := 1000000) (B := 1000) (by omega) hs
  omega
theorem den_bd {h v : Int} (hh : 1 ≤ h ∧ h ≤ 1000) (hv : 1300000 ≤ v ∧ v ≤ 1700000) : 1300000 ≤ h * v ∧ h * v ≤ 1700000000 := by
  have h1 : 1 * 1300000 ≤ h * v := Int.mul_le_mul hh.1 hv.1 (by omega) (by omega)
  have h2 : h * v ≤ 1000 * 1700000 := Int.mul_le_mul hh.2 hv.2 (by omega) (by omega)
  omega
def dlys (xs : List Int) (num den : Int) : List Int := xs.map (fun x => near (x * num) den)
def dlysTo (xs : List Int) (num den : Int) (k : Nat) : List Int := dlys (xs.take k) num den
theorem dlys_len (xs : List Int) (num den : Int) : (dlys xs num den).length = xs.length := by simp [dlys]
theorem dlysTo_len {xs : List Int} {num den : Int} {k : Nat} (h : k ≤ xs.length) : (dlysTo xs num den k).length = k := by simp [dlysTo, dlys]; omega
theorem dlysTo_snoc {xs : List Int} {num den : Int} {k : Nat} (h : k < xs.length) : dlysTo xs num den k ++ [near (xs.getD k 0 * num) den] = dlysTo xs num den (k + 1) := by
  unfold dlysTo; rw [take_snoc h]; simp [dlys]
theorem dlysTo_all {xs : List Int} {num den : Int} {n : Nat} (h : xs.length = n) : dlysTo xs num den n = dlys xs num den := by
  unfold dlysTo; rw [List.take_of_length_le (by omega)]
theorem dlys_at {xs : List Int} {num den : Int} {k : Nat} (h : k < xs.length) : (dlys xs num den).getD k 0 = near (xs.getD k 0 * num) den := by simp [dlys, h]
/-- how far the nearest integer is off -/
theorem near_err {a b : Int} (hb : 0 < b) : -b ≤ 2 * (a - near a b * b) ∧ 2 * (a - near a b * b) ≤ b := by
  have h1 := Int.emod_nonneg a (show b ≠ 0 by omega)
  have h2 := Int.emod_lt_of_pos a hb
  have h3 := near_rest (a := a) (b := b)
  unfold near
  split
  · rename_i h
    rw [Int.add_mul]
    omega
  · omega
def eVal (x num den : Int) : Int := -((-(1000 * iabs (x * num - near (x * num) den * den))) / den)
def dErrs (xs : List Int) (num den : Int) : List Int := xs.map (fun x => eVal x num den)
def dErrsTo (xs : List Int) (num den : Int) (k : Nat) : List Int := dErrs (xs.take k) num den
theorem dErrs_len (xs : List Int) (num den : Int) : (dErrs xs num den).length = xs.length := by simp [dErrs]
theorem dErrsTo_len {xs : List Int} {num den : Int} {k : Nat} (h : k ≤ xs.length) : (dErrsTo xs num den k).length = k := by simp [dErrsTo, dErrs]; omega
theorem dErrsTo_snoc {xs : List Int} {num den : Int} {k : Nat} (h : k < xs.length) : dErrsTo xs num den k ++ [eVal (xs.getD k 0) num den] = dErrsTo xs num den (k + 1) := by
  unfold dErrsTo; rw [take_snoc h]; simp [dErrs]
theorem dErrsTo_all {xs : List Int} {num den : Int} {n : Nat} (h : xs.length = n) : dErrsTo xs num den n = dErrs xs num den := by
  unfold dErrsTo; rw [List.take_of_length_le (by omega)]
theorem eVal_bd {x num den : Int} (hd : 0 < den) : 0 ≤ eVal x num den ∧ eVal x num den ≤ 500 := by
  have h := near_err (a := x * num) hd
  have ha : 0 ≤ iabs (x * num - near (x * num) den * den) ∧ 2 * iabs (x * num - near (x * num) den * den) ≤ den := by unfold iabs; omega
  unfold eVal
  generalize iabs (x * num - near (x * num) den * den) = z at ha ⊢
  have h1 : (-(1000 * z)) / den ≤ 0 := by
    rcases Int.lt_or_le 0 ((-(1000 * z)) / den) with h | h
    · exfalso
      have h2 := Int.mul_ediv_self_le (x := -(1000 * z)) (k := den) (by omega)
      have h3 : den * 1 ≤ den * ((-(1000 * z)) / den) := Int.mul_le_mul_of_nonneg_left h (by omega)
      omega
    · exact h
  have h2 : -500 ≤ (-(1000 * z)) / den := Int.le_ediv_of_mul_le hd (by omega)
  omega
/-- the list of delays, its first k turned into errors -/
def eMix (xs : List Int) (num den : Int) (k : Nat) : List Int := dErrsTo xs num den k ++ (dlys xs num den).drop k
theorem eMix_len {xs : List Int} {num den : Int} {k : Nat} (h : k ≤ xs.length) : (eMix xs num den k).length = xs.length := by simp [eMix, dErrsTo_len h, dlys_len]; omega
theorem eMix_at {xs : List Int} {num den : Int} {k : Nat} (h : k < xs.length) : (eMix xs num den k).getD k 0 = near (xs.getD k 0 * num) den := by
  unfold eMix
  have hl := dErrsTo_len (xs := xs) (num := num) (den := den) (k := k) (by omega)
  rw [← dlys_at h]
  simp [List.getD_eq_getElem?_getD, List.getElem?_append_right, hl]
theorem eMix_set {xs : List Int} {num den : Int} {k : Nat} (h : k < xs.length) : (eMix xs num den k).set k (eVal (xs.getD k 0) num den) = eMix xs num den (k + 1) := by
  unfold eMix
  have hl := dErrsTo_len (xs := xs) (num := num) (den := den) (k := k) (by omega)
  rw [← dErrsTo_snoc h, List.set_append_right _ _ (by omega), hl, Nat.sub_self, List.drop_eq_getElem_cons (by rw [dlys_len]; exact h), List.set_cons_zero, List.append_assoc]; rfl
theorem eMix_zero (xs : List Int) (num den : Int) : eMix xs num den 0 = dlys xs num den := by simp [eMix, dErrsTo, dErrs]
theorem eMix_all {xs : List Int} {num den : Int} {n : Nat} (h : xs.length = n) : eMix xs num den n = dErrs xs num den := by
  unfold eMix
  rw [dErrsTo_all h, List.drop_eq_nil_of_le (by rw [dlys_len]; omega), List.append_nil]
def dlVal (xs : List Int) (c s h r v : Int) : List Int := if wvCode xs c s h r v = 0 then dlys xs (10 * r * s) (h * v) else []
def deVal (xs : List Int) (c s h r v : Int) : List Int := if wvCode xs c s h r v = 0 then dErrs xs (10 * r * s) (h * v) else []
theorem dlVal_len {xs : List Int} {c s h r v : Int} {n : Nat} (hn : xs.length = n) (h0 : n ≤ 1048576) : (dlVal xs c s h r v).length ≤ 1048576 := by
  unfold dlVal; split
  · rw [dlys_len]; omega
  · simp
theorem deVal_len {xs : List Int} {c s h r v : Int} {n : Nat} (hn : xs.length = n) (h0 : n ≤ 1048576) : (deVal xs c s h r v).length ≤ 1048576 := by
  unfold deVal; split
  · rw [dErrs_len]; omega
  · simp
theorem near_bd {a b M : Int} (hb : 0 < b) (h : -M ≤ a ∧ a ≤ M) (hM : 1 ≤ M) : -(M + 1) ≤ near a b ∧ near a b ≤ M + 1 := by
  have := ediv_bd hb h hM
  unfold near; split <;> omega
end Go.Proofs.Ytfmhbphbgdijpaa
