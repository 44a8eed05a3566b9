/- plain: tracks, drift -/
import Derived.Test.YtoccglmlpobeeaaPlainS
import Derived.Test.YtoccglmlpobeeaaW6
set_option linter.unusedVariables false
set_option linter.unusedSimpArgs false
namespace Go.Proofs.Ytoccglmlpobeeaa
open Go.RowKit

theorem drift_ok {p q r s t u v z k : Int} (h : driftCode p q r s t u v z k = 0) : trk2 p q r s t u v z = true ∧ inR k 0 1000 = true := by
  unfold driftCode at h; split at h
  · split at h
    · exact ⟨by assumption, by assumption⟩
    · cases h
  · cases h
theorem trk2_comm (p q r s t u v z : Int) : trk2 t u v z p q r s = trk2 p q r s t u v z := by unfold trk2; exact Bool.and_comm _ _
theorem drift_zero {p q r s t u v z k : Int} (h : driftCode p q r s t u v z k = 0) : drift p q r s t u v z 0 = drift p q r s t u v z k ∧ driftCode p q r s t u v z 0 = 0 := by
  obtain ⟨h1, h2⟩ := drift_ok h
  have h3 : inR 0 0 1000 = true := by decide
  unfold drift driftCode
  rw [h1, h2, h3]; simp
theorem drift_swap {p q r s t u v z k : Int} (h : driftCode p q r s t u v z k = 0) : drift t u v z p q r s k = drift p q r s t u v z k ∧ driftCode t u v z p q r s k = 0 := by
  obtain ⟨h1, h2⟩ := drift_ok h
  obtain ⟨b1, b2⟩ := trk2_bd h1
  unfold TrB at b1 b2
  unfold drift driftCode
  rw [trk2_comm, h1, h2]
  simp only [Bool.and_self, if_true, and_true]
  rw [cross_eq (a := r - v) (by omega) (by omega) (by omega) (by omega), cross_eq (a := v - r) (by omega) (by omega) (by omega) (by omega)]
  have e1 : (r - v) * (q - u) = (v - r) * (u - q) := by rw [← Int.neg_mul_neg]; congr 1 <;> omega
  have e2 : (s - z) * (p - t) = (z - s) * (t - p) := by rw [← Int.neg_mul_neg]; congr 1 <;> omega
  rw [e1, e2]
theorem pos_ok {p q r s t : Int} (h : posCode p q r s t = 0) : posOk p q r s t = true := by
  unfold posCode at h; unfold posOk
  split at h
  · split at h
    · split at h
      · simp_all
      · cases h
    · cases h
  · cases h
theorem pos_time {p q r s t : Int} (h : posCode p q r s t = 0) : wrap64 (t - 1) = t - 1 := by
  have := pos_ok h
  unfold posOk at this; simp only [Bool.and_eq_true, inRB] at this
  exact w64id _ (by omega)
theorem pos_step {p q r s t : Int} (h : posCode p q r s t = 0) (h' : posCode p q r s (t - 1) = 0) : wrap64 (posX p q r s (t - 1) + r) = posX p q r s t ∧ wrap64 (posY p q r s (t - 1) + s) = posY p q r s t := by
  have k := pos_ok h
  have k' := pos_ok h'
  unfold posX posY
  rw [if_pos k, if_pos k, if_pos k', if_pos k']
  unfold posOk posIn at k; simp only [Bool.and_eq_true, isPt_iff] at k
  have e1 : p + (t - 1) * r + r = p + t * r := by rw [Int.sub_mul]; omega
  have e2 : q + (t - 1) * s + s = q + t * s := by rw [Int.sub_mul]; omega
  rw [e1, e2]
  exact ⟨w64id _ (by omega), w64id _ (by omega)⟩
end Go.Proofs.Ytoccglmlpobeeaa
