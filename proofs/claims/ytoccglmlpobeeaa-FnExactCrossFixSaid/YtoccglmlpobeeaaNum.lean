/- walks: common divisors, quotients -/
import Derived.Test.YtoccglmlpobeeaaW12
import Derived.Test.YtoccglmlpobeeaaMem
import Derived.Deep.QuietTactic
import Derived.BigQuiet
import Derived.Laws.BitsLemmas
set_option linter.unusedVariables false
set_option linter.unusedSimpArgs false
namespace Go.Proofs.Ytoccglmlpobeeaa
open Go.RowKit

theorem gcd_step (a b : Int) : Int.gcd b (a.tmod b) = Int.gcd a b := by
  unfold Int.gcd
  rw [Int.natAbs_tmod, Nat.gcd_comm, ← Nat.gcd_rec, Nat.gcd_comm]
theorem gcd_end (a : Int) : ((Int.gcd a 0 : Nat) : Int) = iabs a := by
  unfold Int.gcd iabs; simp; omega
theorem tmod_bd {a b : Int} (h : b ≠ 0) : (a.tmod b).natAbs < b.natAbs := by
  rw [Int.natAbs_tmod]; exact Nat.mod_lt _ (by omega)
theorem gcd_iabs (a b : Int) : Int.gcd (iabs a) (iabs b) = Int.gcd a b := by
  have h : ∀ x : Int, (iabs x).natAbs = x.natAbs := fun x => by unfold iabs; omega
  unfold Int.gcd; rw [h, h]

set_option maxHeartbeats 1000000 in
theorem iGcd_any (a b : Int) (w : World) (ha : -1000000000000000000 ≤ a ∧ a ≤ 1000000000000000000) (hb : -1000000000000000000 ≤ b ∧ b ≤ 1000000000000000000) :
    Calls Try.prog 115 #[.int .i64 a, .int .i64 b] w fun en w9 => en = .returned (.int .i64 (Int.gcd a b)) ∧ ∃ m, w9 = w.drewN m := by
  go_enter Try.func115, Try.ntmps115
  go_wp2
  go_loopw [0, 1] (fun x y wr => ∃ (p q : Int) (m : Nat), x = .int .i64 p ∧ y = .int .i64 q ∧ (-1000000000000000000 ≤ p ∧ p ≤ 1000000000000000000) ∧ (-1000000000000000000 ≤ q ∧ q ≤ 1000000000000000000) ∧ Hid (Int.gcd p q = Int.gcd a b) ∧ wr = w.drewN m) (fun _ y _ => (intOf y).natAbs)
  case atStart => exact ⟨a, b, 0, rfl, rfl, ha, hb, rfl, rfl⟩
  case round =>
    obtain ⟨p, q, m, rfl, rfl, hp, hq, HG, rfl⟩ := hrel
    by_cases h0 : q = 0
    · subst h0
      have HE : Hid (((Int.gcd a b : Nat) : Int) = iabs p) := by show _ = _; rw [← HG.out]; exact gcd_end p
      go_wp2_with (first | (go_at_call 120; refine (iAbs_any _ _ (by omega) (by omega)).mono ?_; rintro en w1 ⟨rfl, rfl⟩))
      go_ret
      exact ⟨by rw [HE.out]; rfl, _, rfl⟩
    · have hne : (q != 0) = true := by simpa using h0
      have hne2 : (q == 0) = false := by simpa using h0
      have ht := tmod_bd (a := p) h0
      have HS : Hid (Int.gcd q (p.tmod q) = Int.gcd a b) := by show _ = _; rw [gcd_step]; exact HG.out
      have hr : -1000000000000000000 ≤ p.tmod q ∧ p.tmod q ≤ 1000000000000000000 := by omega
      go_wp2
      go_quiet (fail)
      go_wp2
      go_roundw
      case rel => exact ⟨q, p.tmod q, m + nq, rfl, rfl, hq, hr, HS, World.drewN_drewN _ _ _⟩
      case measure => exact ht

set_option maxHeartbeats 1000000 in
theorem sGcd_any (a b : Int) (w : World) (ha : -1000000000000000000 ≤ a ∧ a ≤ 1000000000000000000) (hb : -1000000000000000000 ≤ b ∧ b ≤ 1000000000000000000) :
    Calls Try.prog 118 #[.int .i64 a, .int .i64 b] w fun en w9 => en = .returned (.int .i64 (Int.gcd a b)) ∧ ∃ m, w9 = w.drewN m := by
  have ha2 : 0 ≤ iabs a ∧ iabs a ≤ 1000000000000000000 := by unfold iabs; omega
  have hb2 : 0 ≤ iabs b ∧ iabs b ≤ 1000000000000000000 := by unfold iabs; omega
  go_enter Try.func118, Try.ntmps118
  go_wp2_with (first | (go_at_call 121; refine (sAbs_any _ _ (by omega) (by omega)).mono ?_; rintro en w1 ⟨rfl, rfl⟩))
  go_loopw [0, 1] (fun x y wr => ∃ (p q : Int) (m : Nat), x = .int .i64 p ∧ y = .int .i64 q ∧ (0 ≤ p ∧ p ≤ 1000000000000000000) ∧ (0 ≤ q ∧ q ≤ 1000000000000000000) ∧ Hid (Int.gcd p q = Int.gcd a b) ∧ wr = w.drewN m) (fun _ y _ => (intOf y).natAbs)
  case atStart => exact ⟨iabs a, iabs b, 0, rfl, rfl, ha2, hb2, gcd_iabs a b, rfl⟩
  case round =>
    obtain ⟨p, q, m, rfl, rfl, hp, hq, HG, rfl⟩ := hrel
    by_cases h0 : q = 0
    · subst h0
      have HE : Hid (((Int.gcd a b : Nat) : Int) = p) := by show _ = _; rw [← HG.out, gcd_end p]; unfold iabs; omega
      go_wp2
      go_ret
      exact ⟨by rw [HE.out]; rfl, _, rfl⟩
    · have hne2 : (q == 0) = false := by simpa using h0
      have hpos : 0 < q := by omega
      have ht := tmod_bd (a := p) h0
      have HS : Hid (Int.gcd q (p.tmod q) = Int.gcd a b) := by show _ = _; rw [gcd_step]; exact HG.out
      have hnn : 0 ≤ p.tmod q := Int.tmod_nonneg _ hp.1
      have hr : 0 ≤ p.tmod q ∧ p.tmod q ≤ 1000000000000000000 := by omega
      rw [Int.tmod_eq_emod_of_nonneg hp.1] at ht HS hnn hr
      go_wp2
      go_quiet (fail)
      go_wp2
      go_roundw
      case rel => exact ⟨q, p % q, m + nq, rfl, rfl, hq, hr, HS, World.drewN_drewN _ _ _⟩
      case measure => exact ht

theorem fd_form {a b : Int} (h : 0 < b) : a.tmod b + b * a.tdiv b = a := Int.tmod_add_mul_tdiv a b
theorem fd_lo {a b : Int} (hb : 0 < b) (ha : a < 0) (hr : a.tmod b = 0) : a / b = a.tdiv b := by
  have h := fd_form (a := a) hb
  exact ((Int.ediv_emod_unique hb).2 ⟨show 0 + b * a.tdiv b = a by omega, Int.le_refl _, hb⟩).1
theorem fd_up {a b : Int} (hb : 0 < b) (ha : a < 0) (hr : a.tmod b ≠ 0) : a / b = a.tdiv b - 1 := by
  have h := fd_form (a := a) hb
  have h2 := tmod_bd (a := a) (b := b) (by omega)
  have h3 : a.tmod b ≤ 0 := by
    have := Int.tmod_nonneg (a := -a) b (by omega)
    rw [Int.neg_tmod] at this; omega
  exact ((Int.ediv_emod_unique hb (r := a.tmod b + b)).2 ⟨by rw [Int.mul_sub]; omega, by omega, by omega⟩).1
theorem tdiv_bd {a b M : Int} (h : -M ≤ a ∧ a ≤ M) : -M ≤ a.tdiv b ∧ a.tdiv b ≤ M := by
  have h2 : (a.tdiv b).natAbs ≤ a.natAbs := by rw [Int.natAbs_tdiv]; exact Nat.div_le_self _ _
  omega

/-- the nearest integer of a quotient by b > 0, of two the even one -/
def near (a b : Int) : Int := if b < 2 * (a % b) ∨ (2 * (a % b) = b ∧ (a / b) % 2 = 1) then a / b + 1 else a / b
theorem near_rest {a b : Int} : a - a / b * b = a % b := by
  have := Int.mul_ediv_add_emod a b; rw [Int.mul_comm] at this; omega
theorem ediv_bd {a b M : Int} (hb : 0 < b) (h : -M ≤ a ∧ a ≤ M) (hM : 1 ≤ M) : -M ≤ a / b ∧ a / b ≤ M := by
  constructor
  · exact Int.le_ediv_of_mul_le hb (Int.le_trans (show -M * b ≤ -M by
      have := Int.mul_le_mul_of_nonneg_left (show 1 ≤ b by omega) (show 0 ≤ M by omega)
      rw [Int.neg_mul]; omega) h.1)
  · rcases Int.lt_or_le a 0 with h0 | h0
    · have := Int.ediv_neg_of_neg_of_pos h0 hb; omega
    · exact Int.le_trans (Int.ediv_le_self _ h0) h.2
theorem i64_and1 (n : Int) : bits .and .i64 n 1 = n % 2 := by
  have h1 : (BitVec.ofInt 64 1).toNat = 2 ^ 1 - 1 := by decide
  have key : (BitVec.ofInt 64 n &&& BitVec.ofInt 64 1).toNat = (n % ((2 ^ 64 : Nat) : Int)).toNat % 2 ^ 1 := by
    rw [BitVec.toNat_and, BitVec.toNat_ofInt, h1, Nat.and_two_pow_sub_one_eq_mod]
  show IntKind.i64.wrap ((BitVec.ofInt 64 n &&& BitVec.ofInt 64 1).toNat : Nat) = n % 2
  rw [key, IntKind.wrap_i64]
  omega
end Go.Proofs.Ytoccglmlpobeeaa
