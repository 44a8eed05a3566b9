/- plain functions: tracks -/
import Derived.Test.YtoccglmlpobeeaaPlain
set_option linter.unusedVariables false
set_option linter.unusedSimpArgs false
namespace Go.Proofs.Ytoccglmlpobeeaa
open Go.RowKit

def isTr (p q r s : Int) : Bool := isPt 100000 p q && isPt 1000 r s
def trk2 (p q r s t u v z : Int) : Bool := isTr p q r s && isTr t u v z
def TrB (p q r s : Int) : Prop := -100000 ≤ p ∧ p ≤ 100000 ∧ -100000 ≤ q ∧ q ≤ 100000 ∧ -1000 ≤ r ∧ r ≤ 1000 ∧ -1000 ≤ s ∧ s ≤ 1000
theorem isTr_bd {p q r s : Int} (h : isTr p q r s = true) : TrB p q r s := by
  simp only [isTr, isPt, inR, Bool.and_eq_true, decide_eq_true_eq] at h
  unfold TrB; omega
theorem trk2_bd {p q r s t u v z : Int} (h : trk2 p q r s t u v z = true) : TrB p q r s ∧ TrB t u v z := by
  simp only [trk2, Bool.and_eq_true] at h
  exact ⟨isTr_bd h.1, isTr_bd h.2⟩
theorem mul_bd {a b A B : Int} (ha : -A ≤ a ∧ a ≤ A) (hb : -B ≤ b ∧ b ≤ B) : -(A * B) ≤ a * b ∧ a * b ≤ A * B := by
  have hA : 0 ≤ A := by omega
  have hB : 0 ≤ B := by omega
  have h1 : a.natAbs ≤ A.toNat := by omega
  have h2 : b.natAbs ≤ B.toNat := by omega
  have h3 : (a * b).natAbs ≤ A.toNat * B.toNat := by rw [Int.natAbs_mul]; exact Nat.mul_le_mul h1 h2
  have h4 : ((A.toNat * B.toNat : Nat) : Int) = A * B := by rw [Int.natCast_mul, Int.toNat_of_nonneg hA, Int.toNat_of_nonneg hB]
  omega
theorem cross_eq {a b c d : Int} (ha : -300000 ≤ a ∧ a ≤ 300000) (hb : -300000 ≤ b ∧ b ≤ 300000) (hc : -300000 ≤ c ∧ c ≤ 300000) (hd : -300000 ≤ d ∧ d ≤ 300000) : cross a b c d = a * d - b * c := by
  have h1 := mul_bd ha hd
  have h2 := mul_bd hb hc
  unfold cross
  rw [IntWalk.wrap64_in (a * d) (by omega), IntWalk.wrap64_in (b * c) (by omega), IntWalk.wrap64_in _ (by omega)]
theorem dot_eq {a b c d : Int} (ha : -300000 ≤ a ∧ a ≤ 300000) (hb : -300000 ≤ b ∧ b ≤ 300000) (hc : -300000 ≤ c ∧ c ≤ 300000) (hd : -300000 ≤ d ∧ d ≤ 300000) : dot a b c d = a * c + b * d := by
  have h1 := mul_bd ha hc
  have h2 := mul_bd hb hd
  unfold dot
  rw [IntWalk.wrap64_in (a * c) (by omega), IntWalk.wrap64_in (b * d) (by omega), IntWalk.wrap64_in _ (by omega)]
end Go.Proofs.Ytoccglmlpobeeaa
