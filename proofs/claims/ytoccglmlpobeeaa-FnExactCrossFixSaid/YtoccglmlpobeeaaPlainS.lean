/- plain: sides, bearings compared -/
import Derived.Test.YtoccglmlpobeeaaPlain3
import Derived.Lib.Hide
set_option linter.unusedVariables false
set_option linter.unusedSimpArgs false
namespace Go.Proofs.Ytoccglmlpobeeaa
open Go.RowKit

theorem inRB {x lo hi : Int} : inR x lo hi = true ↔ lo ≤ x ∧ x ≤ hi := by simp [inR]
theorem w64id (n : Int) (h : -4000000000000000000 ≤ n ∧ n ≤ 4000000000000000000) : wrap64 n = n := by unfold wrap64; omega
theorem isPt_iff {m x y : Int} : isPt m x y = true ↔ (-m ≤ x ∧ x ≤ m) ∧ (-m ≤ y ∧ y ≤ m) := by simp [isPt, inRB]
theorem isBear_bd {x y : Int} (h : isBear x y = true) : (-1000 ≤ x ∧ x ≤ 1000) ∧ (-1000 ≤ y ∧ y ≤ 1000) := by
  unfold isBear at h; simp only [Bool.and_eq_true] at h; exact isPt_iff.1 h.1
theorem mulB {a b m k : Int} (ha : -m ≤ a ∧ a ≤ m) (hb : -k ≤ b ∧ b ≤ k) (hm : 0 ≤ m) (hk : 0 ≤ k) : -(m * k) ≤ a * b ∧ a * b ≤ m * k := by
  have h1 : a.natAbs ≤ m.natAbs := by omega
  have h2 : b.natAbs ≤ k.natAbs := by omega
  have h3 : (a * b).natAbs ≤ m.natAbs * k.natAbs := by rw [Int.natAbs_mul]; exact Nat.mul_le_mul h1 h2
  have h4 : ((m.natAbs * k.natAbs : Nat) : Int) = m * k := by rw [Int.natCast_mul]; congr 1 <;> omega
  omega
theorem cross_small {a b c d : Int} (ha : -1000 ≤ a ∧ a ≤ 1000) (hb : -1000 ≤ b ∧ b ≤ 1000) (hc : -200000 ≤ c ∧ c ≤ 200000) (hd : -200000 ≤ d ∧ d ≤ 200000) : cross a b c d = a * d - b * c := by
  have h1 := mulB (m := 1000) (k := 200000) ha hd (by decide) (by decide)
  have h2 := mulB (m := 1000) (k := 200000) hb hc (by decide) (by decide)
  unfold cross
  rw [w64id (a * d) (by omega), w64id (b * c) (by omega), w64id _ (by omega)]
theorem sgn_neg' (x : Int) : sgn (-x) = - sgn x := by unfold sgn; omega
theorem sgn_rng (x : Int) : -1 ≤ sgn x ∧ sgn x ≤ 1 := by unfold sgn; omega
theorem cmpOk_comm (a b c d : Int) : cmpOk c d a b = cmpOk a b c d := by unfold cmpOk; exact Bool.and_comm _ _
theorem cmp_code (a b c d : Int) : cmpCode c d a b = cmpCode a b c d := by unfold cmpCode; rw [cmpOk_comm]
theorem cmp_flip (a b c d : Int) : cmpVal c d a b = - cmpVal a b c d := by
  unfold cmpVal; rw [cmpOk_comm]
  by_cases h : cmpOk a b c d = true
  · rw [if_pos h, if_pos h]
    unfold cmpOk at h; simp only [Bool.and_eq_true] at h
    have p := isBear_bd h.1; have q := isBear_bd h.2
    rw [cross_small p.1 p.2 (by omega) (by omega), cross_small q.1 q.2 (by omega) (by omega)]
    have e : c * b - d * a = -(a * d - b * c) := by rw [Int.mul_comm c b, Int.mul_comm d a]; omega
    rw [e, sgn_neg']
    cases west a b <;> cases west c d <;> simp
  · rw [if_neg h, if_neg h]; rfl
theorem cmp_rng (a b c d : Int) : -1 ≤ cmpVal a b c d ∧ cmpVal a b c d ≤ 1 := by
  unfold cmpVal; split
  · split
    · exact sgn_rng _
    · split <;> decide
  · decide
theorem isBear_neg {x y : Int} (h : isBear x y = true) : isBear (-x) (-y) = true := by
  have hb := isBear_bd h
  unfold isBear at h ⊢
  simp only [Bool.and_eq_true, isPt_iff, Bool.not_eq_true', Bool.and_eq_false_iff, beq_eq_false_iff_ne] at h ⊢
  omega
theorem side_bd {a b c d e f : Int} (h : sideOk a b c d e f = true) : ((-100000 ≤ a ∧ a ≤ 100000) ∧ (-100000 ≤ b ∧ b ≤ 100000)) ∧ isBear c d = true ∧ ((-100000 ≤ e ∧ e ≤ 100000) ∧ (-100000 ≤ f ∧ f ≤ 100000)) := by
  unfold sideOk at h; simp only [Bool.and_eq_true, isPt_iff] at h; exact ⟨h.1.1, h.1.2, h.2⟩
theorem side_rng (a b c d e f : Int) : -1 ≤ sideVal a b c d e f ∧ sideVal a b c d e f ≤ 1 := by
  unfold sideVal; split
  · have := sgn_rng (cross c d (wrap64 (e - a)) (wrap64 (f - b))); omega
  · decide
theorem side_flip {a b c d e f : Int} (h : sideOk a b c d e f = true) : sideVal a b (-c) (-d) e f = - sideVal a b c d e f ∧ sideCode a b (-c) (-d) e f = 0 := by
  obtain ⟨p, q, r⟩ := side_bd h
  have qb := isBear_bd q
  have h2 : sideOk a b (-c) (-d) e f = true := by
    unfold sideOk at h ⊢; simp only [Bool.and_eq_true] at h ⊢; exact ⟨⟨h.1.1, isBear_neg q⟩, h.2⟩
  have e1 : wrap64 (e - a) = e - a := w64id _ (by omega)
  have e2 : wrap64 (f - b) = f - b := w64id _ (by omega)
  refine ⟨?_, by unfold sideCode; rw [if_pos h2]⟩
  unfold sideVal; rw [if_pos h, if_pos h2, e1, e2]
  rw [cross_small qb.1 qb.2 (by omega) (by omega), cross_small (by omega) (by omega) (by omega) (by omega)]
  have e : -c * (f - b) - -d * (e - a) = -(c * (f - b) - d * (e - a)) := by rw [Int.neg_mul, Int.neg_mul]; omega
  rw [e, sgn_neg']
theorem side_ok {a b c d e f : Int} (h : sideCode a b c d e f = 0) : sideOk a b c d e f = true := by
  unfold sideCode at h; split at h
  · assumption
  · cases h
end Go.Proofs.Ytoccglmlpobeeaa
