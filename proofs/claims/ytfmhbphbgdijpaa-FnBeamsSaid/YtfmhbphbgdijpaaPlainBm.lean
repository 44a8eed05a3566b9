/- plain: what the law of beams needs -/
import Derived.Test.YtfmhbphbgdijpaaPlainLaw
import Derived.Test.YtfmhbphbgdijpaaEn
set_option linter.unusedVariables false
set_option linter.unusedSimpArgs false
namespace Go.Proofs.Ytfmhbphbgdijpaa
open Go.RowKit

theorem bm_law {rows : List (List Int)} {ds : List Int} {n : Nat} (hn : rows.length = n) (hz : bmCode rows ds = 0) : (0 ≤ bpVal rows ds ∧ bpVal rows ds ≤ n * enAll rows n) ∧ n ≤ 12 ∧
    (∀ k, k < n → enVal (rows.getD k []) = corr (rows.getD k []) 0 ∧ enCode (rows.getD k []) = 0) ∧ (∀ k, k ≤ n → 0 ≤ enAll rows k ∧ enAll rows k ≤ 4800000000) ∧ (∀ k, enAll rows (k + 1) = enAll rows k + corr (rows.getD k []) 0) := by
  subst hn
  have hc := isChans_iff.1 (bmCode_zero hz).1
  have hp : bpVal rows ds = corr (bVal rows ds) 0 := by unfold bpVal; rw [if_pos hz]
  refine ⟨⟨by rw [hp]; exact corr_nn _, by rw [hp]; exact bPow_le rows ds⟩, hc.2.2.1, fun k hk => ?_, fun k hk => ?_, fun k => rfl⟩
  · have h := hc.2.2.2.2 k hk
    have hs : isSig (rows.getD k []) = true := isSig_iff.2 ⟨by have := hc.2.2.2.1; omega, h.2⟩
    exact ⟨by simp only [enVal, hs, if_true], by simp only [enCode, hs, if_true]⟩
  · have := enAll_bd hc k hk
    have := hc.2.2.1
    omega
theorem bb_law {rows : List (List Int)} {xs : List Int} {m : Nat} {f g e : Nat → Int} {r v : Int} (hz : bbCode rows xs m f g e r v = 0) :
    ∃ (T W : Nat → Int), T 0 = -1 ∧ (∀ k, T (k + 1) = max (T k) (W k)) ∧ (∀ k, k ≤ m → -1 ≤ T k ∧ T k ≤ 57600000000) ∧ (∀ k, k < m → (0 ≤ W k ∧ W k ≤ 57600000000) ∧ (T k < W k → (k : Int) ≤ bbVal rows xs m f g e r v)) ∧
    (∀ k, k < m → ∀ D, D = dlVal xs (f k) (g k) (e k) r v → D.length = xs.length ∧ wvCode xs (f k) (g k) (e k) r v = 0 ∧ bmCode rows D = 0 ∧ bpVal rows D = W k) ∧ rows.length ≤ 12 ∧ xs.length ≤ 12 := by
  obtain ⟨h1, h2, h3, h4, h5, h6, h7⟩ := bbCode_zero hz
  have hc := isChans_iff.1 h1
  have hle : ∀ k, bbPw rows xs r v g e k ≤ 57600000000 := fun k => by
    refine corr_le (bVal_bd hc) ?_
    rw [bVal_len rfl]; exact hc.2.2.2.1
  have hbv : bbVal rows xs m f g e r v = (bbTo rows xs r v g e m).1 := by unfold bbVal; rw [if_pos hz]
  refine ⟨fun k => (bbTo rows xs r v g e k).2, bbPw rows xs r v g e, rfl, fun k => bb_max rows xs r v g e k, fun k hk => ⟨(bbTo_bd rows xs r v g e k).2, ?_⟩, fun k hk => ⟨⟨bbPw_nn rows xs r v g e k, hle k⟩, fun h => ?_⟩, fun k hk D hD => ?_, hc.2.2.1, by rw [h5]; exact hc.2.2.1⟩
  · clear hk
    dsimp only
    induction k with
    | zero => simp [bbTo]
    | succ k ih => rw [bb_max]; have := hle k; omega
  · rw [hbv]
    have := bb_first hk h
    omega
  · obtain ⟨q1, q2, q3, q4⟩ := bb_each hz hk
    rw [q2] at hD
    subst hD
    exact ⟨dlys_len _ _ _, q1, q3, by unfold bpVal; rw [if_pos q3]; rfl⟩
end Go.Proofs.Ytfmhbphbgdijpaa
