/- plain functions: beams -/
import Derived.Test.YtfmhbphbgdijpaaW6
set_option linter.unusedVariables false
set_option linter.unusedSimpArgs false
namespace Go.Proofs.Ytfmhbphbgdijpaa
open Go.RowKit

theorem bd_mul {a b A B : Int} (ha : -A ≤ a ∧ a ≤ A) (hb : -B ≤ b ∧ b ≤ B) : -(A * B) ≤ a * b ∧ a * b ≤ A * B := by
  have hA : 0 ≤ A := by omega
  have hB : 0 ≤ B := by omega
  have h1 : a.natAbs ≤ A.toNat := by omega
  have h2 : b.natAbs ≤ B.toNat := by omega
  have h3 : (a * b).natAbs ≤ A.toNat * B.toNat := by rw [Int.natAbs_mul]; exact Nat.mul_le_mul h1 h2
  have h4 : ((A.toNat * B.toNat : Nat) : Int) = A * B := by rw [Int.natCast_mul, Int.toNat_of_nonneg hA, Int.toNat_of_nonneg hB]
  omega
/-- all entries are at most M -/
def Bd (M : Int) (xs : List Int) : Prop := ∀ i, -M ≤ xs.getD i 0 ∧ xs.getD i 0 ≤ M
theorem Bd.of {M : Int} {xs : List Int} (h0 : 0 ≤ M) (h : ∀ x ∈ xs, -M ≤ x ∧ x ≤ M) : Bd M xs := fun i => by
  by_cases hi : i < xs.length
  · exact h _ (List.mem_of_getElem? (getD_at hi))
  · rw [List.getD_eq_getElem?_getD, List.getElem?_eq_none (by omega)]; simp; omega
theorem Bd.mono {M N : Int} {xs : List Int} (h : Bd M xs) (hl : M ≤ N) : Bd N xs := fun i => by have := h i; omega
def bAt (xs : List Int) (j : Int) : Int := if inR j 0 (xs.length - 1) then xs.getD j.toNat 0 else 0
def bSum (rows : List (List Int)) (ds : List Int) (k : Nat) : Nat → Int
  | 0 => 0
  | i + 1 => bSum rows ds k i + bAt (rows.getD i []) (k + ds.getD i 0)
def bVal (rows : List (List Int)) (ds : List Int) : List Int := (List.range (rows.getD 0 []).length).map (fun k => bSum rows ds k rows.length)
/-- row i is being added: its first k samples are in -/
def bMix (rows : List (List Int)) (ds : List Int) (L i k : Nat) : List Int := (List.range L).map (fun j => bSum rows ds j (if j < k then i + 1 else i))
theorem bMix_len (rows : List (List Int)) (ds : List Int) (L i k : Nat) : (bMix rows ds L i k).length = L := by simp [bMix]
theorem bMix_at {rows : List (List Int)} {ds : List Int} {L i k j : Nat} (h : j < L) : (bMix rows ds L i k).getD j 0 = bSum rows ds j (if j < k then i + 1 else i) := getD_range h
theorem bMix_zero (rows : List (List Int)) (ds : List Int) (L : Nat) : bMix rows ds L 0 0 = List.replicate L 0 := by
  apply eq_of_getD (by simp [bMix_len])
  intro i hi
  rw [bMix_len] at hi
  rw [bMix_at hi, if_neg (by omega)]
  simp [bSum, hi]
theorem bMix_set {rows : List (List Int)} {ds : List Int} {L i k : Nat} (h : k < L) : (bMix rows ds L i k).set k (bSum rows ds k (i + 1)) = bMix rows ds L i (k + 1) := by
  apply eq_of_getD (by simp [bMix_len])
  intro j hj
  rw [List.length_set, bMix_len] at hj
  rw [bMix_at hj]
  by_cases e : k = j
  · subst e
    rw [if_pos (by omega)]
    simp [bMix_len, h]
  · rw [List.getD_eq_getElem?_getD, List.getElem?_set_ne e, ← List.getD_eq_getElem?_getD, bMix_at hj]
    by_cases e3 : j < k
    · rw [if_pos e3, if_pos (by omega)]
    · rw [if_neg e3, if_neg (by omega)]
theorem bMix_stay {rows : List (List Int)} {ds : List Int} {L i k : Nat} (h : bSum rows ds k (i + 1) = bSum rows ds k i) : bMix rows ds L i (k + 1) = bMix rows ds L i k := by
  apply eq_of_getD (by simp [bMix_len])
  intro j hj
  rw [bMix_len] at hj
  rw [bMix_at hj, bMix_at hj]
  by_cases e : j = k
  · subst e; rw [if_pos (by omega), if_neg (by omega), h]
  · by_cases e3 : j < k
    · rw [if_pos e3, if_pos (by omega)]
    · rw [if_neg e3, if_neg (by omega)]
theorem bMix_next (rows : List (List Int)) (ds : List Int) (L i : Nat) : bMix rows ds L i L = bMix rows ds L (i + 1) 0 := by
  apply eq_of_getD (by simp [bMix_len])
  intro j hj
  rw [bMix_len] at hj
  rw [bMix_at hj, bMix_at hj, if_pos hj, if_neg (by omega)]
theorem bMix_all {rows : List (List Int)} {ds : List Int} {L n : Nat} (hn : rows.length = n) (hL : (rows.getD 0 []).length = L) : bMix rows ds L n 0 = bVal rows ds := by
  unfold bMix bVal
  rw [hL, hn]
  apply List.map_congr_left
  intro j _
  rw [if_neg (by omega)]
theorem bSum_in {rows : List (List Int)} {ds : List Int} {k i : Nat} {L : Nat} (hl : (rows.getD i []).length = L) (h : inR ((k : Int) + ds.getD i 0) 0 ((L : Int) - 1) = true) :
    bSum rows ds k (i + 1) = bSum rows ds k i + (rows.getD i []).getD ((k : Int) + ds.getD i 0).toNat 0 := by
  simp only [bSum, bAt, hl, h, if_true]
theorem bSum_out {rows : List (List Int)} {ds : List Int} {k i : Nat} {L : Nat} (hl : (rows.getD i []).length = L) (h : inR ((k : Int) + ds.getD i 0) 0 ((L : Int) - 1) = false) :
    bSum rows ds k (i + 1) = bSum rows ds k i := by
  simp only [bSum, bAt, hl, h]; simp
theorem bAt_bd {xs : List Int} (h : Sig xs) (j : Int) : -1000 ≤ bAt xs j ∧ bAt xs j ≤ 1000 := by
  unfold bAt; split
  · exact h.at _
  · omega
theorem bSum_bd {rows : List (List Int)} {ds : List Int} {n L : Nat} (h : Chans rows n L) (k i : Nat) (hi : i ≤ n) : -(1000 * i) ≤ bSum rows ds k i ∧ bSum rows ds k i ≤ 1000 * i := by
  induction i with
  | zero => simp [bSum]
  | succ i ih =>
    have h1 := ih (by omega)
    have h2 := bAt_bd (h.2.2.2.2 i (by omega)).2 (k + ds.getD i 0)
    simp only [bSum]; omega
theorem bVal_len {rows : List (List Int)} {ds : List Int} {L : Nat} (hL : (rows.getD 0 []).length = L) : (bVal rows ds).length = L := by rw [← hL]; simp [bVal]
theorem bVal_bd {rows : List (List Int)} {ds : List Int} {n L : Nat} (h : Chans rows n L) : Bd 12000 (bVal rows ds) := by
  apply Bd.of (by omega)
  intro x hx
  obtain ⟨k, _, rfl⟩ := List.mem_map.1 hx
  have h1 := bSum_bd (ds := ds) h k n (Nat.le_refl _)
  rw [h.1]
  have := h.2.2.1
  omega
def bTo (rows : List (List Int)) (ds : List Int) (k : Nat) : List Int := (List.range k).map (fun j => bSum rows ds j rows.length)
theorem bTo_len (rows : List (List Int)) (ds : List Int) (k : Nat) : (bTo rows ds k).length = k := by simp [bTo]
theorem bTo_snoc (rows : List (List Int)) (ds : List Int) (k : Nat) : bTo rows ds k ++ [bSum rows ds k rows.length] = bTo rows ds (k + 1) := by simp [bTo, List.range_succ]
def bmCode (rows : List (List Int)) (ds : List Int) : Int := if isChans rows then (if decide (ds.length = rows.length) && allIn (-1000000) 1000000 ds then 0 else 2) else 1
def bmVal (rows : List (List Int)) (ds : List Int) : List Int := if bmCode rows ds = 0 then bVal rows ds else []
theorem bmCode_zero {rows : List (List Int)} {ds : List Int} (h : bmCode rows ds = 0) : isChans rows = true ∧ ds.length = rows.length ∧ Bd 1000000 ds := by
  unfold bmCode at h
  by_cases h1 : isChans rows = true
  · rw [if_pos h1] at h
    by_cases h2 : (decide (ds.length = rows.length) && allIn (-1000000) 1000000 ds) = true
    · simp only [Bool.and_eq_true, decide_eq_true_eq] at h2
      exact ⟨h1, h2.1, Bd.of (by omega) (allIn_iff.1 h2.2)⟩
    · rw [if_neg h2] at h; omega
  · rw [if_neg h1] at h; omega
theorem bmVal_len {rows : List (List Int)} {ds : List Int} : (bmVal rows ds).length ≤ 1048576 := by
  unfold bmVal; split
  · have h := isChans_iff.1 (bmCode_zero (by assumption)).1
    rw [bVal_len rfl]; have := h.2.2.2.1; omega
  · simp
/-- the energy of a list -/
def corrTo (xs : List Int) (k : Nat) : Nat → Int
  | 0 => 0
  | i + 1 => corrTo xs k i + xs.getD i 0 * xs.getD (i + k) 0
def corr (xs : List Int) (k : Nat) : Int := corrTo xs k (xs.length - k)
theorem corrTo_bd {xs : List Int} (h : Bd 12000 xs) (k i : Nat) : -(144000000 * i) ≤ corrTo xs k i ∧ corrTo xs k i ≤ 144000000 * i := by
  induction i with
  | zero => simp [corrTo]
  | succ i ih => have := bd_mul (h i) (h (i + k)); simp only [corrTo]; omega
def bpVal (rows : List (List Int)) (ds : List Int) : Int := if bmCode rows ds = 0 then corr (bVal rows ds) 0 else 0
end Go.Proofs.Ytfmhbphbgdijpaa
