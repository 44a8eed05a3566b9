/- plain: what the law of plane waves needs -/
import Derived.Test.YtfmhbphbgdijpaaPlainLaw
import Derived.Test.YtfmhbphbgdijpaaEn
set_option linter.unusedVariables false
set_option linter.unusedSimpArgs false
namespace Go.Proofs.Ytfmhbphbgdijpaa
open Go.RowKit

theorem pw_law {ps xs : List Int} {c s h r v : Int} {S N : Nat} (hz : pwCode ps xs c s h r v S N = 0) (hst : S + ps.length ≤ N) :
    wvCode xs c s h r v = 0 ∧ enCode ps = 0 ∧ (dlVal xs c s h r v).length = xs.length ∧ (pwVal ps xs c s h r v S N).length = xs.length ∧ bmCode (pwVal ps xs c s h r v S N) (dlVal xs c s h r v) = 0 ∧
    bpVal (pwVal ps xs c s h r v S N) (dlVal xs c s h r v) = xs.length * xs.length * enVal ps ∧ (0 ≤ enVal ps ∧ enVal ps ≤ 400000000) ∧
    (bmVal (pwVal ps xs c s h r v S N) (dlVal xs c s h r v)).length = N ∧
    (∀ k, k < N → (bmVal (pwVal ps xs c s h r v S N) (dlVal xs c s h r v)).getD k 0 = xs.length * (if S ≤ k ∧ k < S + ps.length then ps.getD (k - S) 0 else 0)) ∧
    (∀ es : List Int, es.length = xs.length → (∀ x ∈ es, -10 ≤ x ∧ x ≤ 10) → bmCode (pwVal ps xs c s h r v S N) es = 0 ∧ bpVal (pwVal ps xs c s h r v S N) es ≤ xs.length * xs.length * enVal ps) ∧ Sig ps := by
  obtain ⟨s1, s2, s3, s4, s5, s6, s7, s8, s9, s10⟩ := pw_facts hz
  have hN : ((N : Int)).toNat = N := by omega
  have hen : enVal ps = corr ps 0 := by simp [enVal, s1]
  have hsg := (isSig_iff.1 s1)
  have hpl : (pwVal ps xs c s h r v S N).length = xs.length := by rw [s6, pwRows_len, s7]
  obtain ⟨b1, b2, b3⟩ := pw_beam (ps := ps) (ds := dlVal xs c s h r v) (st := (S : Int)) (L := (N : Int)) (n := xs.length) s7 s3.1 s5.1 s4.1 s8 (by omega)
  have hbm : bmVal (pwVal ps xs c s h r v S N) (dlVal xs c s h r v) = bVal (pwRows ps (dlVal xs c s h r v) S N) (dlVal xs c s h r v) := by unfold bmVal; rw [if_pos s10, s6]
  refine ⟨s2, by simp [enCode, s1], s7, hpl, s10, ?_, ?_, by rw [hbm, b1, hN], fun k hk => ?_, fun es hes hb => ?_, hsg.2⟩
  · unfold bpVal; rw [if_pos s10, s6, b3, hen]
  · rw [hen]
    refine ⟨corr_nn ps, ?_⟩
    have := hsg.1
    have : ∀ m, m ≤ 400 → corrTo ps 0 m ≤ 1000000 * m := fun m => by
      induction m with
      | zero => intro _; simp [corrTo]
      | succ m ih2 =>
        intro hm
        have a1 := ih2 (by omega)
        have a2 := bd_mul (hsg.2.at m) (hsg.2.at m)
        simp only [corrTo, Nat.add_zero]; omega
    have := this (ps.length - 0) (by omega)
    unfold corr
    omega
  · rw [hbm, b2 k (by omega)]
    by_cases hc : S ≤ k ∧ k < S + ps.length
    · rw [if_pos hc, if_pos (by omega)]; congr 2
    · rw [if_neg hc, if_neg (by omega)]
  · have ha : allIn (-1000000) 1000000 es = true := allIn_iff.2 (fun x hx => by have := hb x hx; omega)
    have hcode : bmCode (pwVal ps xs c s h r v S N) es = 0 := by simp [bmCode, s9, ha, hes, hpl]
    refine ⟨hcode, ?_⟩
    unfold bpVal
    rw [if_pos hcode, s6, hen]
    exact pw_most s7 s4.1 s8
theorem pw_range {ps xs : List Int} {c s h r v st L : Int} (hz : pwCode ps xs c s h r v st L = 0) : (0 ≤ L ∧ L ≤ 400) ∧ (0 ≤ st ∧ st ≤ 400) := by
  obtain ⟨_, _, _, s4, s5, _⟩ := pw_facts hz
  exact ⟨s4, s5⟩
end Go.Proofs.Ytfmhbphbgdijpaa
