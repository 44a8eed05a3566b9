/- walks: common divisors, quotients -/
import Derived.Test.YtfmhbphbgdijpaaW1
import Derived.Test.YtfmhbphbgdijpaaMem
import Derived.Deep.QuietTactic
import Derived.BigQuiet
import Derived.Laws.BitsLemmas
set_option linter.unusedVariables false
set_option linter.unusedSimpArgs false
namespace Go.Proofs.Ytfmhbphbgdijpaa
open Go.RowKit

theorem gcd_step (a b : Int) : Int.gcd b (a.tmod b) = Int.gcd a b := by
  unfold Int.gcd
  rw [Int.natAbs_tmod, Nat.gcd_comm, ← Nat.gcd_rec, Nat.gcd_comm]
theorem gcd_end (a : Int) : ((Int.gcd a 0 : Nat) : Int) = iabs a := by
  unfold Int.gcd iabs; simp; omega
theorem tmod_bd {a b : Int} (h : b ≠ 0) : (a.tmod b).natAbs < b.natAbs := by
  rw [Int.natAbs_tmod]; exact Nat.mod_lt _ (by omega)
theorem gcd_iabs (a b : Int) : Int.gcd (iabs a) (iabs b) = Int.gcd a b := by
  have h : ∀ x : Int, (iabs x).natAbs = x.natAbs := fun x => by unfold iabs; omega
  unfold Int.gcd; rw [h, h]

set_option maxHeartbeats 1000000 in
theorem iGcd_any (a b : Int) (w : World) (ha : -1000000000000000000 ≤ a ∧ a ≤ 1000000000000000000) (hb : -1000000000000000000 ≤ b ∧ b ≤ 1000000000000000000) :
    Calls Try.prog 96 #[.int .i64 a, .int .i64 b] w fun en w9 => en = .returned (.int .i64 (Int.gcd a b)) ∧ ∃ m, w9 = w.drewN m := by
  go_enter Try.func96, Try.ntmps96
  go_wp2
  go_loopw [0, 1] (fun x y wr => ∃ (p q : Int) (m : Nat), x = .int .i64 p ∧ y = .int .i64 q ∧ (-1000000000000000000 ≤ p ∧ p ≤ 1000000000000000000) ∧ (-1000000000000000000 ≤ q ∧ q ≤ 1000000000000000000) ∧ Hid (Int.gcd p q = Int.gcd a b) ∧ wr = w.drewN m) (fun _ y _ => (intOf y).natAbs)
  case atStart => exact ⟨a, b, 0, rfl, rfl, ha, hb, rfl, rfl⟩
  case round =>
    obtain ⟨p, q, m, rfl, rfl, hp, hq, HG, rfl⟩ := hrel
    by_cases h0 : q = 0
    · subst h0
      have HE : Hid (((Int.gcd a b : Nat) : Int) = iabs p) := by show _ = _; rw [← HG.out]; exact gcd_end p
      go_wp2_with (first | (go_at_call 90; refine (iAbs_any _ _ (by omega) (by omega)).mono ?_; rintro en w1 ⟨rfl, rfl⟩))
      go_ret
      exact ⟨by rw [HE.out]; rfl, _, rfl⟩
    · have hne : (q != 0) = true := by simpa using h0
      have hne2 : (q == 0) = false := by simpa using h0
      have ht := tmod_bd (a := p) h0
      have HS : Hid (Int.gcd q (p.tmod q) = Int.gcd a b) := by show _ = _; rw [gcd_step]; exact HG.out
      have hr : -1000000000000000000 ≤ p.tmod q ∧ p.tmod q ≤ 1000000000000000000 := by omega
      go_wp2
      go_quiet (fail)
      go_wp2
      go_roundw
      case rel => exact ⟨q, p.tmod q, m + nq, rfl, rfl, hq, hr, HS, World.drewN_drewN _ _ _⟩
      case measure => exact ht

set_option maxHeartbeats 1000000 in
theorem sGcd_any (a b : Int) (w : World) (ha : -1000000000000000000 ≤ a ∧ a ≤ 1000000000000000000) (hb : -1000000000000000000 ≤ b ∧ b ≤ 1000000000000000000) :
    Calls Try.prog 98 #[.int .i64 a, .int .i64 b] w fun en w9 => en = .returned (.int .i64 (Int.gcd a b)) ∧ ∃ m, w9 = w.drewN m := by
  have ha2 : 0 ≤ iabs a ∧ iabs a ≤ 1000000000000000000 := by unfold iabs; omega
  have hb2 : 0 ≤ iabs b ∧ iabs b ≤ 1000000000000000000 := by unfold iabs; omega
  go_enter Try.func98, Try.ntmps98
  go_wp2_with (first | (go_at_call 87; refine (sAbs_any _ _ (by omega) (by omega)).mono ?_; rintro en w1 ⟨rfl, rfl⟩))
  go_loopw [0, 1] (fun x y wr => ∃ (p q : Int) (m : Nat), x = .int .i64 p ∧ y = .int .i64 q ∧ (0 ≤ p ∧ p ≤ 1000000000000000000) ∧ (0 ≤ q ∧ q ≤ 1000000000000000000) ∧ Hid (Int.gcd p q = Int.gcd a b) ∧ wr = w.drewN m) (fun _ y _ => (intOf y).natAbs)
  case atStart => exact ⟨iabs a, iabs b, 0, rfl, rfl, ha2, hb2, gcd_iabs a b, rfl⟩
  case round =>
    obtain ⟨p, q, m, rfl, rfl, hp, hq, HG, rfl⟩ := hrel
    by_cases h0 : q = 0
    · subst h0
      have HE : Hid (((Int.gcd a b : Nat) : Int) = p) := by show _ = _; rw [← HG.out, gcd_end p]; unfold iabs; omega
      go_wp2
      go_ret
      exact ⟨by rw [HE.out]; rfl, _, rfl⟩
    · have hne2 : (q == 0) = false := by simpa using h0
      have hpos : 0 < q := by omega
      have ht := tmod_bd (a := p) h0
      have HS : Hid (Int.gcd q (p.tmod q) = Int.gcd a b) := by show _ = _; rw [gcd_step]; exact HG.out
      have hnn : 0 ≤ p.tmod q := Int.tmod_nonneg _ hp.1
      have hr : 0 ≤ p.tmod q ∧ p.tmod q ≤ 1000000000000000000 := by omega
      rw [Int.tmod_eq_emod_of_nonneg hp.1] at ht HS hnn hr
      go_wp2
      go_quiet (fail)
      go_wp2
      go_roundw
      case rel => exact ⟨q, p % q, m + nq, rfl, rfl, hq, hr, HS, World.drewN_drewN _ _ _⟩
      case measure => exact ht

theorem fd_form {a b : Int} (h : 0 < b) : a.tmod b + b * a.tdiv b = a := Int.tmod_add_mul_tdiv a b
theorem fd_lo {a b : Int} (hb : 0 < b) (ha : a < 0) (hr : a.tmod b = 0) : a / b = a.tdiv b := by
  have h := fd_form (a := a) hb
  exact ((Int.ediv_emod_unique hb).2 ⟨show 0 + b * a.tdiv b = a by omega, Int.le_refl _, hb⟩).1
theorem fd_up {a b : Int} (hb : 0 < b) (ha : a < 0) (hr : a.tmod b ≠ 0) : a / b = a.tdiv b - 1 := by
  have h := fd_form (a := a) hb
  have h2 := tmod_bd (a := a) (b := b) (by omega)
  have h3 : a.tmod b ≤ 0 := by
    have := Int.tmod_nonneg (a := -a) b (by omega)
    rw [Int.neg_tmod] at this; omega
  exact ((Int.ediv_emod_unique hb (r := a.tmod b + b)).2 ⟨by rw [Int.mul_sub]; omega, by omega, by omega⟩).1
theorem tdiv_bd {a b M : Int} (h : -M ≤ a ∧ a ≤ M) : -M ≤ a.tdiv b ∧ a.tdiv b ≤ M := by
  have h2 : (a.tdiv b).natAbs ≤ a.natAbs := by rw [Int.natAbs_tdiv]; exact Nat.div_le_self _ _
  omega

set_option maxHeartbeats 1000000 in
theorem iFloor_any (a b : Int) (w : World) (ha : -1000000000000000000 ≤ a ∧ a ≤ 1000000000000000000) (hb0 : 0 < b) (hb : b ≤ 1000000000000000000) :
    Calls Try.prog 101 #[.int .i64 a, .int .i64 b] w fun en w9 => en = .returned (.int .i64 (a / b)) ∧ w = w9 := by
  have hne : (b == 0) = false := by simp; omega
  have hne0 : ¬ b = 0 := by omega
  have hbl : ¬ b < 0 := by omega
  rcases Int.lt_or_le a 0 with h | h
  · have hq := tdiv_bd (b := b) ha
    by_cases hr : a.tmod b = 0
    · have HV := Lib.hid (fd_lo hb0 h hr)
      go_enter Try.func101, Try.ntmps101
      go_wp2
      go_ret
      exact ⟨by rw [HV.out]; rfl, rfl⟩
    · have HV := Lib.hid (fd_up hb0 h hr)
      have hr2 : (a.tmod b != 0) = true := by simpa using hr
      go_enter Try.func101, Try.ntmps101
      go_wp2
      go_ret
      exact ⟨by rw [HV.out]; rfl, rfl⟩
  · have hd := Int.tdiv_eq_ediv_of_nonneg (b := b) h
    have hq := tdiv_bd (b := b) ha
    rw [hd] at hq
    have hnl : ¬ a < 0 := by omega
    by_cases hr : a % b = 0
    · go_enter Try.func101, Try.ntmps101
      go_wp2
      go_ret
      exact ⟨rfl, rfl⟩
    · have hr2 : (a % b != 0) = true := by simpa using hr
      go_enter Try.func101, Try.ntmps101
      go_wp2
      go_ret
      exact ⟨rfl, rfl⟩

set_option maxHeartbeats 1000000 in
theorem sFloor_any (a b : Int) (w : World) (ha : -1000000000000000000 ≤ a ∧ a ≤ 1000000000000000000) (hb0 : 0 < b) (hb : b ≤ 1000000000000000000) :
    Calls Try.prog 100 #[.int .i64 a, .int .i64 b] w fun en w9 => en = .returned (.int .i64 (a / b)) ∧ w = w9 := by
  have hne : (b == 0) = false := by simp; omega
  have hne0 : ¬ b = 0 := by omega
  have hbl : ¬ b < 0 := by omega
  rcases Int.lt_or_le a 0 with h | h
  · have hq := tdiv_bd (b := b) ha
    by_cases hr : a.tmod b = 0
    · have HV := Lib.hid (fd_lo hb0 h hr)
      go_enter Try.func100, Try.ntmps100
      go_wp2
      go_ret
      exact ⟨by rw [HV.out]; rfl, rfl⟩
    · have HV := Lib.hid (fd_up hb0 h hr)
      have hr2 : (a.tmod b != 0) = true := by simpa using hr
      go_enter Try.func100, Try.ntmps100
      go_wp2
      go_ret
      exact ⟨by rw [HV.out]; rfl, rfl⟩
  · have hd := Int.tdiv_eq_ediv_of_nonneg (b := b) h
    have hq := tdiv_bd (b := b) ha
    rw [hd] at hq
    have hnl : ¬ a < 0 := by omega
    by_cases hr : a % b = 0
    · go_enter Try.func100, Try.ntmps100
      go_wp2
      go_ret
      exact ⟨rfl, rfl⟩
    · have hr2 : (a % b != 0) = true := by simpa using hr
      go_enter Try.func100, Try.ntmps100
      go_wp2
      go_ret
      exact ⟨rfl, rfl⟩

/-- the nearest integer of a quotient by b > 0, of two the even one -/
def near (a b : Int) : Int := if b < 2 * (a % b) ∨ (2 * (a % b) = b ∧ (a / b) % 2 = 1) then a / b + 1 else a / b
theorem near_rest {a b : Int} : a - a / b * b = a % b := by
  have := Int.mul_ediv_add_emod a b; rw [Int.mul_comm] at this; omega
theorem ediv_bd {a b M : Int} (hb : 0 < b) (h : -M ≤ a ∧ a ≤ M) (hM : 1 ≤ M) : -M ≤ a / b ∧ a / b ≤ M := by
  constructor
  · exact Int.le_ediv_of_mul_le hb (Int.le_trans (show -M * b ≤ -M by
      have := Int.mul_le_mul_of_nonneg_left (show 1 ≤ b by omega) (show 0 ≤ M by omega)
      rw [Int.neg_mul]; omega) h.1)
  · rcases Int.lt_or_le a 0 with h0 | h0
    · have := Int.ediv_neg_of_neg_of_pos h0 hb; omega
    · exact Int.le_trans (Int.ediv_le_self _ h0) h.2
theorem i64_and1 (n : Int) : bits .and .i64 n 1 = n % 2 := by
  have h1 : (BitVec.ofInt 64 1).toNat = 2 ^ 1 - 1 := by decide
  have key : (BitVec.ofInt 64 n &&& BitVec.ofInt 64 1).toNat = (n % ((2 ^ 64 : Nat) : Int)).toNat % 2 ^ 1 := by
    rw [BitVec.toNat_and, BitVec.toNat_ofInt, h1, Nat.and_two_pow_sub_one_eq_mod]
  show IntKind.i64.wrap ((BitVec.ofInt 64 n &&& BitVec.ofInt 64 1).toNat : Nat) = n % 2
  rw [key, IntKind.wrap_i64]
  omega

set_option maxHeartbeats 1000000 in
theorem iNear_any (a b : Int) (w : World) (ha : -1000000000000000000 ≤ a ∧ a ≤ 1000000000000000000) (hb0 : 0 < b) (hb : b ≤ 1000000000000000000) :
    Calls Try.prog 97 #[.int .i64 a, .int .i64 b] w fun en w9 => en = .returned (.int .i64 (near a b)) ∧ w = w9 := by
  have hq := ediv_bd hb0 ha (by omega)
  have HR := Lib.hid (near_rest (a := a) (b := b))
  obtain ⟨q, hqq⟩ : ∃ q, q = a / b := ⟨_, rfl⟩
  obtain ⟨r, hrr⟩ : ∃ r, r = a % b := ⟨_, rfl⟩
  have h0 := Int.emod_nonneg a (show b ≠ 0 by omega)
  have h1 := Int.emod_lt_of_pos a hb0
  have hqb : -2000000000000000000 ≤ a / b * b ∧ a / b * b ≤ 2000000000000000000 := by have := HR.out; omega
  have hbl : ¬ b < 0 := by omega
  have hE : a - q * b = r := by rw [hqq, hrr]; exact HR.out
  rw [← hqq] at hq hqb
  rw [← hrr] at h0 h1
  have HQ := Lib.hid hqq; have HRR := Lib.hid hrr
  clear hqq hrr
  rcases Int.lt_or_le (b - r) r with c1 | c1
  · have HV : Hid (near a b = q + 1) := by show _ = _; unfold near; rw [← HQ.out, ← HRR.out, if_pos (.inl (by omega))]
    go_enter Try.func97, Try.ntmps97
    go_wp2_with fail
    refine (iFloor_any _ _ _ (by assumption) (by assumption) (by assumption)).mono ?_
    rintro en w1 ⟨rfl, rfl⟩
    rw [← HQ.out]
    go_wp2
    go_ret
    exact ⟨by rw [HV.out]; rfl, rfl⟩
  · by_cases c2 : r = b - r
    · have e2 : (r == b - r) = true := by simpa using c2
      have C2 := Lib.hid c2; clear c2
      have e4 := i64_and1 q
      by_cases c3 : q % 2 = 1
      · have HV : Hid (near a b = q + 1) := by show _ = _; have := C2.out; unfold near; rw [← HQ.out, ← HRR.out, if_pos (.inr ⟨by omega, c3⟩)]
        have e3 : (bits .and .i64 q 1 == 1) = true := by rw [e4]; simpa using c3
        have e5 : (q % 2 == 1) = true := by simpa using c3
        clear e4 c3
        go_enter Try.func97, Try.ntmps97
        go_wp2_with fail
        refine (iFloor_any _ _ _ (by assumption) (by assumption) (by assumption)).mono ?_
        rintro en w1 ⟨rfl, rfl⟩
        rw [← HQ.out]
        go_wp2
        go_ret
        exact ⟨by rw [HV.out]; rfl, rfl⟩
      · have HV : Hid (near a b = q) := by show _ = _; unfold near; rw [← HQ.out, ← HRR.out, if_neg (by omega)]
        have e3 : (bits .and .i64 q 1 == 1) = false := by rw [e4]; simpa using c3
        have e5 : (q % 2 == 1) = false := by simpa using c3
        clear e4 c3
        go_enter Try.func97, Try.ntmps97
        go_wp2_with fail
        refine (iFloor_any _ _ _ (by assumption) (by assumption) (by assumption)).mono ?_
        rintro en w1 ⟨rfl, rfl⟩
        rw [← HQ.out]
        go_wp2
        go_ret
        exact ⟨by rw [HV.out]; rfl, rfl⟩
    · have e2 : (r == b - r) = false := by simpa using c2
      have HV : Hid (near a b = q) := by show _ = _; unfold near; rw [← HQ.out, ← HRR.out, if_neg (by omega)]
      clear c2
      go_enter Try.func97, Try.ntmps97
      go_wp2_with fail
      refine (iFloor_any _ _ _ (by assumption) (by assumption) (by assumption)).mono ?_
      rintro en w1 ⟨rfl, rfl⟩
      rw [← HQ.out]
      go_wp2
      go_ret
      exact ⟨by rw [HV.out]; rfl, rfl⟩

set_option maxHeartbeats 1000000 in
theorem sNear_any (a b : Int) (w : World) (ha : -1000000000000000000 ≤ a ∧ a ≤ 1000000000000000000) (hb0 : 0 < b) (hb : b ≤ 1000000000000000000) :
    Calls Try.prog 99 #[.int .i64 a, .int .i64 b] w fun en w9 => en = .returned (.int .i64 (near a b)) ∧ w = w9 := by
  have hq := ediv_bd hb0 ha (by omega)
  have HR := Lib.hid (near_rest (a := a) (b := b))
  obtain ⟨q, hqq⟩ : ∃ q, q = a / b := ⟨_, rfl⟩
  obtain ⟨r, hrr⟩ : ∃ r, r = a % b := ⟨_, rfl⟩
  have h0 := Int.emod_nonneg a (show b ≠ 0 by omega)
  have h1 := Int.emod_lt_of_pos a hb0
  have hqb : -2000000000000000000 ≤ a / b * b ∧ a / b * b ≤ 2000000000000000000 := by have := HR.out; omega
  have hbl : ¬ b < 0 := by omega
  have hE : a - q * b = r := by rw [hqq, hrr]; exact HR.out
  rw [← hqq] at hq hqb
  rw [← hrr] at h0 h1
  have HQ := Lib.hid hqq; have HRR := Lib.hid hrr
  clear hqq hrr
  rcases Int.lt_or_le 0 (2 * r - b) with c1 | c1
  · have HV : Hid (near a b = q + 1) := by show _ = _; unfold near; rw [← HQ.out, ← HRR.out, if_pos (.inl (by omega))]
    (go_enter Try.func99, Try.ntmps99; go_wp2_with fail; refine (sFloor_any _ _ _ (by assumption) (by assumption) (by assumption)).mono ?_; rintro en w1 ⟨rfl, rfl⟩; rw [← HQ.out]; go_wp2_with (first | (go_at_call 100; refine (sFloor_any _ _ _ (by first | assumption | omega) (by first | assumption | omega) (by first | assumption | omega)).mono ?_; rintro en w1 ⟨rfl, rfl⟩)); go_ret; exact ⟨by rw [HV.out]; rfl, rfl⟩)
  · by_cases c2 : 2 * r - b = 0
    · have e2 : (2 * r - b == 0) = true := by simpa using c2
      have C2 := Lib.hid c2; clear c2
      by_cases c3 : q % 2 = 1
      · have HV : Hid (near a b = q + 1) := by show _ = _; have := C2.out; unfold near; rw [← HQ.out, ← HRR.out, if_pos (.inr ⟨by omega, c3⟩)]
        have e3 : (q / 2 * 2 != q) = true := by simp; omega
        clear c3
        (go_enter Try.func99, Try.ntmps99; go_wp2_with fail; refine (sFloor_any _ _ _ (by assumption) (by assumption) (by assumption)).mono ?_; rintro en w1 ⟨rfl, rfl⟩; rw [← HQ.out]; go_wp2_with (first | (go_at_call 100; refine (sFloor_any _ _ _ (by first | assumption | omega) (by first | assumption | omega) (by first | assumption | omega)).mono ?_; rintro en w1 ⟨rfl, rfl⟩)); go_ret; exact ⟨by rw [HV.out]; rfl, rfl⟩)
      · have HV : Hid (near a b = q) := by show _ = _; unfold near; rw [← HQ.out, ← HRR.out, if_neg (by omega)]
        have e3 : (q / 2 * 2 != q) = false := by simp; omega
        clear c3
        (go_enter Try.func99, Try.ntmps99; go_wp2_with fail; refine (sFloor_any _ _ _ (by assumption) (by assumption) (by assumption)).mono ?_; rintro en w1 ⟨rfl, rfl⟩; rw [← HQ.out]; go_wp2_with (first | (go_at_call 100; refine (sFloor_any _ _ _ (by first | assumption | omega) (by first | assumption | omega) (by first | assumption | omega)).mono ?_; rintro en w1 ⟨rfl, rfl⟩)); go_ret; exact ⟨by rw [HV.out]; rfl, rfl⟩)
    · have e2 : (2 * r - b == 0) = false := by simpa using c2
      have HV : Hid (near a b = q) := by show _ = _; unfold near; rw [← HQ.out, ← HRR.out, if_neg (by omega)]
      clear c2
      (go_enter Try.func99, Try.ntmps99; go_wp2_with fail; refine (sFloor_any _ _ _ (by assumption) (by assumption) (by assumption)).mono ?_; rintro en w1 ⟨rfl, rfl⟩; rw [← HQ.out]; go_wp2_with (first | (go_at_call 100; refine (sFloor_any _ _ _ (by first | assumption | omega) (by first | assumption | omega) (by first | assumption | omega)).mono ?_; rintro en w1 ⟨rfl, rfl⟩)); go_ret; exact ⟨by rw [HV.out]; rfl, rfl⟩)
end Go.Proofs.Ytfmhbphbgdijpaa
