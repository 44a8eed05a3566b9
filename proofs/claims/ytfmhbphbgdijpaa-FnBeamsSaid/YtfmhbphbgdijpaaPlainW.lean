/- plain functions: plane waves -/
import Derived.Test.YtfmhbphbgdijpaaPlainD
import Derived.Test.YtfmhbphbgdijpaaMat
set_option linter.unusedVariables false
set_option linter.unusedSimpArgs false
namespace Go.Proofs.Ytfmhbphbgdijpaa
open Go.RowKit

/-- a pulse at place a in a signal of length L -/
def pwRow (ps : List Int) (L a : Nat) : List Int := (List.range L).map (fun i => if a ≤ i ∧ i < a + ps.length then ps.getD (i - a) 0 else 0)
theorem pwRow_len (ps : List Int) (L a : Nat) : (pwRow ps L a).length = L := by simp [pwRow]
theorem pwRow_at {ps : List Int} {L a i : Nat} (h : i < L) : (pwRow ps L a).getD i 0 = if a ≤ i ∧ i < a + ps.length then ps.getD (i - a) 0 else 0 := getD_range h
def plcTo (ps : List Int) (L a : Nat) : Nat → List Int
  | 0 => List.replicate L 0
  | j + 1 => (plcTo ps L a j).set (a + j) (ps.getD j 0)
theorem plcTo_len (ps : List Int) (L a j : Nat) : (plcTo ps L a j).length = L := by
  induction j with
  | zero => simp [plcTo]
  | succ j ih => simp only [plcTo, List.length_set, ih]
theorem plcTo_at {ps : List Int} {L a j i : Nat} (hj : a + j ≤ L) (hi : i < L) : (plcTo ps L a j).getD i 0 = if a ≤ i ∧ i < a + j then ps.getD (i - a) 0 else 0 := by
  induction j with
  | zero => rw [if_neg (by omega)]; simp [plcTo, hi]
  | succ j ih =>
    simp only [plcTo]
    have ih := ih (by omega)
    by_cases e : a + j = i
    · subst e
      rw [if_pos (by omega), show a + j - a = j by omega]
      simp [plcTo_len, hi]
    · rw [List.getD_eq_getElem?_getD, List.getElem?_set_ne e, ← List.getD_eq_getElem?_getD, ih]
      by_cases h2 : a ≤ i ∧ i < a + j
      · rw [if_pos h2, if_pos (by omega)]
      · rw [if_neg h2, if_neg (by omega)]
theorem plcTo_all {ps : List Int} {L a p : Nat} (hp : ps.length = p) (h : a + p ≤ L) : plcTo ps L a p = pwRow ps L a := by
  apply eq_of_getD (by rw [plcTo_len, pwRow_len])
  intro i hi
  rw [plcTo_len] at hi
  rw [plcTo_at h hi, pwRow_at hi, hp]
theorem pwRow_splice {ps : List Int} {L a p : Nat} (hp : ps.length = p) (h : a + p ≤ L) : (List.replicate L (0 : Int)).take a ++ (ps ++ (List.replicate L (0 : Int)).drop (a + p)) = pwRow ps L a := by
  apply eq_of_getD (by simp [pwRow_len, hp]; omega)
  intro i hi
  have hi2 : i < L := by simp [hp] at hi; omega
  rw [pwRow_at hi2, hp]
  rw [List.getD_eq_getElem?_getD]
  by_cases h1 : i < a
  · rw [if_neg (by omega), List.getElem?_append_left (by simp; omega)]
    rw [List.take_replicate, List.getElem?_replicate]
    split <;> rfl
  · rw [List.getElem?_append_right (by simp; omega)]
    have e : i - (List.take a (List.replicate L (0 : Int))).length = i - a := by simp; omega
    rw [e]
    by_cases h2 : i < a + p
    · rw [if_pos (by omega), List.getElem?_append_left (by omega)]
      rw [List.getD_eq_getElem?_getD]
    · rw [if_neg (by omega), List.getElem?_append_right (by omega)]
      rw [List.drop_replicate, List.getElem?_replicate]
      split <;> rfl
theorem pwRow_sig {ps : List Int} {L a : Nat} (h : Sig ps) : Sig (pwRow ps L a) := by
  intro x hx
  obtain ⟨i, _, rfl⟩ := List.mem_map.1 hx
  split
  · exact h.at _
  · omega
def fitTo (ds : List Int) (st M : Int) : Nat → Bool
  | 0 => true
  | k + 1 => fitTo ds st M k && inR (st + ds.getD k 0) 0 M
theorem fitTo_out {ds : List Int} {st M : Int} {k n : Nat} (h : inR (st + ds.getD k 0) 0 M = false) (hk : k < n) : fitTo ds st M n = false := by
  induction n with
  | zero => omega
  | succ n ih =>
    by_cases e : k = n
    · subst e; simp only [fitTo, h, Bool.and_false]
    · simp only [fitTo, ih (by omega), Bool.false_and]
theorem fitTo_at {ds : List Int} {st M : Int} {n : Nat} (h : fitTo ds st M n = true) {k : Nat} (hk : k < n) : inR (st + ds.getD k 0) 0 M = true := by
  cases e : inR (st + ds.getD k 0) 0 M with
  | true => rfl
  | false => rw [fitTo_out e hk] at h; cases h
def pwOk (st L : Int) : Bool := inR L 0 400 && inR st 0 400
def pwCode (ps xs : List Int) (c s h r v st L : Int) : Int :=
  if isSig ps then (if wvCode xs c s h r v = 0 then (if pwOk st L then (if fitTo (dlys xs (10 * r * s) (h * v)) st (L - ps.length) xs.length then 0 else 2) else 2) else wvCode xs c s h r v) else 1
def pwRows (ps ds : List Int) (st L : Int) : List (List Int) := ds.map (fun d => pwRow ps L.toNat (st + d).toNat)
def pwVal (ps xs : List Int) (c s h r v st L : Int) : List (List Int) := if pwCode ps xs c s h r v st L = 0 then pwRows ps (dlys xs (10 * r * s) (h * v)) st L else []
theorem pwRows_len (ps ds : List Int) (st L : Int) : (pwRows ps ds st L).length = ds.length := by simp [pwRows]
theorem pwRows_at {ps ds : List Int} {st L : Int} {k : Nat} (h : k < ds.length) : (pwRows ps ds st L).getD k [] = pwRow ps L.toNat (st + ds.getD k 0).toNat := by simp [pwRows, h]
theorem pwCode_zero {ps xs : List Int} {c s h r v st L : Int} (hz : pwCode ps xs c s h r v st L = 0) : isSig ps = true ∧ wvCode xs c s h r v = 0 ∧ pwOk st L = true ∧ fitTo (dlys xs (10 * r * s) (h * v)) st (L - ps.length) xs.length = true := by
  unfold pwCode at hz
  by_cases h1 : isSig ps = true
  · rw [if_pos h1] at hz
    by_cases h2 : wvCode xs c s h r v = 0
    · rw [if_pos h2] at hz
      by_cases h3 : pwOk st L = true
      · rw [if_pos h3] at hz
        by_cases h4 : fitTo (dlys xs (10 * r * s) (h * v)) st (L - ps.length) xs.length = true
        · exact ⟨h1, h2, h3, h4⟩
        · rw [if_neg h4] at hz; omega
      · rw [if_neg h3] at hz; omega
    · rw [if_neg h2] at hz; omega
  · rw [if_neg h1] at hz; omega
theorem pwVal_len {ps xs : List Int} {c s h r v st L : Int} : (pwVal ps xs c s h r v st L).length ≤ 12 := by
  unfold pwVal; split
  · rw [pwRows_len, dlys_len]
    have h1 := wvCode_zero (pwCode_zero (by assumption)).2.1
    exact h1.1.2
  · simp
theorem pwVal_row {ps xs : List Int} {c s h r v st L : Int} {k : Nat} : ((pwVal ps xs c s h r v st L).getD k []).length ≤ 400 := by
  unfold pwVal; split
  · have h1 := (pwCode_zero (by assumption)).2.2.1
    simp only [pwOk, Bool.and_eq_true] at h1
    have h2 := inR_iff.1 h1.1
    by_cases hk : k < (dlys xs (10 * r * s) (h * v)).length
    · rw [pwRows_at hk, pwRow_len]; omega
    · rw [List.getD_eq_getElem?_getD, List.getElem?_eq_none (by rw [pwRows_len]; omega)]; simp
  · simp
theorem pwVal_tot {ps xs : List Int} {c s h r v st L : Int} : totTo (pwVal ps xs c s h r v st L) (pwVal ps xs c s h r v st L).length ≤ 1048576 * 12 := by
  have h1 := totTo_bd (rows := pwVal ps xs c s h r v st L) (n := (pwVal ps xs c s h r v st L).length) (fun k hk => Nat.le_trans pwVal_row (by omega)) _ (Nat.le_refl _)
  exact Nat.le_trans h1 (Nat.mul_le_mul (Nat.le_refl _) pwVal_len)
end Go.Proofs.Ytfmhbphbgdijpaa
