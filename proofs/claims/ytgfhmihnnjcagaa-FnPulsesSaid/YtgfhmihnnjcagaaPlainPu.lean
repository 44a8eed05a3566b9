/- plain: pulses of opposite bits, their energy -/
import Derived.Test.YtgfhmihnnjcagaaW14
import Derived.Test.YtgfhmihnnjcagaaPlainCo
import Derived.Test.YtgfhmihnnjcagaaW15
set_option linter.unusedVariables false
set_option linter.unusedSimpArgs false
namespace Go.Proofs.Ytgfhmihnnjcagaa
open Go.RowKit

theorem plCode_zero {bs : List Int} {wd am : Int} (h : plCode bs wd am = 0) : plOk bs wd am = true ∧ (bs.length : Int) * wd ≤ 400 := by
  unfold plCode at h
  by_cases h1 : plOk bs wd am = true
  · rw [if_pos h1] at h
    by_cases h2 : (bs.length : Int) * wd ≤ 400
    · exact ⟨h1, h2⟩
    · rw [if_neg h2] at h; omega
  · rw [if_neg h1] at h; omega
theorem plOk_parts {bs : List Int} {wd am : Int} (h : plOk bs wd am = true) : bs.length ≤ 400 ∧ Bits bs ∧ 1 ≤ wd ∧ wd ≤ 400 ∧ 1 ≤ am ∧ am ≤ 1000 := by
  simp only [plOk, Bool.and_eq_true, decide_eq_true_eq, inR_iff] at h
  exact ⟨h.1.1.1, allIn_iff.1 h.1.1.2, h.1.2.1, h.1.2.2, h.2.1, h.2.2⟩
/-- the opposite bits -/
def opp (bs : List Int) : List Int := bs.map (fun b => 1 - b)
theorem opp_len (bs : List Int) : (opp bs).length = bs.length := by simp [opp]
theorem opp_at {bs : List Int} {i : Nat} (h : i < bs.length) : (opp bs).getD i 0 = 1 - bs.getD i 0 := by simp [opp, h]
theorem opp_bits {bs : List Int} (h : Bits bs) : Bits (opp bs) := fun x hx => by
  obtain ⟨b, hb, rfl⟩ := List.mem_map.1 hx
  have := h b hb; omega
theorem opp_ok {bs : List Int} {wd am : Int} (h : plOk bs wd am = true) : plOk (opp bs) wd am = true := by
  have hp := plOk_parts h
  unfold plOk
  rw [opp_len, decide_eq_true hp.1, allIn_iff.2 (opp_bits hp.2.1), inR_iff.2 ⟨hp.2.2.1, hp.2.2.2.1⟩, inR_iff.2 hp.2.2.2.2]; rfl
theorem plTo_opp (bs : List Int) (wd : Nat) (am : Int) {i : Nat} (h : i ≤ bs.length) : plTo (opp bs) wd am i = (plTo bs wd am i).map (fun x => -x) := by
  induction i with
  | zero => rfl
  | succ i ih =>
    simp only [plTo, List.map_append, List.map_replicate]
    rw [ih (by omega), opp_at (by omega)]
    congr 2
    grind
theorem pl_opp (bs : List Int) (wd : Nat) (am : Int) : pl (opp bs) wd am = (pl bs wd am).map (fun x => -x) := by
  unfold pl; rw [opp_len]; exact plTo_opp bs wd am (Nat.le_refl _)
theorem plVal_opp {bs : List Int} {wd am : Int} (h : plCode bs wd am = 0) : plVal (opp bs) wd am = (plVal bs wd am).map (fun x => -x) ∧ plCode (opp bs) wd am = 0 := by
  obtain ⟨h1, h2⟩ := plCode_zero h
  obtain ⟨e1, e2⟩ := pl_yes (opp_ok h1) (by rw [opp_len]; exact h2)
  rw [e1, e2, (pl_yes h1 h2).1, pl_opp]; exact ⟨rfl, rfl⟩
theorem neg_at {xs : List Int} {i : Nat} (h : i < xs.length) : (xs.map (fun x => -x)).getD i 0 = -xs.getD i 0 := by simp [h]
theorem plVal_good {bs : List Int} {wd am : Int} (h : plCode bs wd am = 0) : (plVal bs wd am).length = bs.length * wd.toNat ∧ bs.length * wd.toNat ≤ 400 ∧ Sig (plVal bs wd am) ∧ isSig (plVal bs wd am) = true ∧ corr (plVal bs wd am) 0 = bs.length * wd * am * am := by
  obtain ⟨h1, h2⟩ := plCode_zero h
  obtain ⟨p1, p2, p3, p4, p5, p6⟩ := plOk_parts h1
  rw [(pl_yes h1 h2).1]
  have hl : (pl bs wd.toNat am).length = bs.length * wd.toNat := pl_len _ _ _
  have hc : ((bs.length * wd.toNat : Nat) : Int) = bs.length * wd := by rw [Int.natCast_mul, Int.toNat_of_nonneg (by omega)]
  have hs : Sig (pl bs wd.toNat am) := pl_sig p2 ⟨p5, p6⟩
  refine ⟨hl, by omega, hs, isSig_iff.2 ⟨by omega, hs⟩, ?_⟩
  rw [corr_zero, hl, ← hc]
  have hq : ∀ i, i < (pl bs wd.toNat am).length → (pl bs wd.toNat am).getD i 0 * (pl bs wd.toNat am).getD i 0 = am * am := fun i hi => by
    obtain ⟨k, hk0⟩ := mem_plTo (List.mem_of_getElem? (getD_at hi))
    have hk : (pl bs wd.toNat am).getD i 0 = (2 * bs.getD k 0 - 1) * am := hk0
    rw [hk]
    have hb := p2.at k
    rcases (show bs.getD k 0 = 0 ∨ bs.getD k 0 = 1 by omega) with e | e <;> rw [e] <;> grind
  have hsum : ∀ m, m ≤ (pl bs wd.toNat am).length → sqN (pl bs wd.toNat am) m = m * (am * am) := fun m => by
    induction m with
    | zero => intro _; simp [sqN, sumN]
    | succ m ih =>
      intro hm
      have e : sqN (pl bs wd.toNat am) (m + 1) = sqN (pl bs wd.toNat am) m + (pl bs wd.toNat am).getD m 0 * (pl bs wd.toNat am).getD m 0 := rfl
      rw [e, ih (by omega), hq m (by omega)]
      push_cast
      grind
  rw [hsum _ (by omega)]
  grind
end Go.Proofs.Ytgfhmihnnjcagaa
