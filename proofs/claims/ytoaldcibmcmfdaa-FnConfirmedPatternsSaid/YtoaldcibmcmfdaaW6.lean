/- walks: ConfirmScan -/
import Derived.Test.YtoaldcibmcmfdaaW5
set_option linter.unusedVariables false
set_option linter.unusedSimpArgs false
namespace Go.Proofs.Ytoaldcibmcmfdaa
open Go.RowKit

def rule (m k : Int) : Bool := inR k 1 12 && inR m 1 k
theorem rule_bd {m k : Int} (h : rule m k = true) : 1 ≤ k ∧ k ≤ 12 ∧ 1 ≤ m ∧ m ≤ k := by
  simp only [rule, Bool.and_eq_true, inR_iff] at h; omega
def scanOk (xs : List Int) (m k : Int) : Bool := decide (xs.length ≤ 200) && allIn 0 1 xs && rule m k
def scanVal (xs : List Int) (m k : Int) : Int := if scanOk xs m k then (if conf xs m k.toNat < 0 then 0 else conf xs m k.toNat) else 0
def scanCode (xs : List Int) (m k : Int) : Int := if scanOk xs m k then (if conf xs m k.toNat < 0 then 4 else 0) else 2
set_option maxHeartbeats 1000000 in
/-- the Go function impl.isConfirmer -/
theorem iRule_any (m k : Int) (w : World) :
    Calls Try.prog 52 #[.int .i64 m, .int .i64 k] w fun en w9 => en = .returned (.bool (rule m k)) ∧ w = w9 := by
  go_enter Try.func52, Try.ntmps52
  go_wp2_with (first | (go_at_call 48; refine (within_any _ _ _ _).mono ?_; rintro en w1 ⟨rfl, rfl⟩))
  all_goals (go_ret; exact ⟨by simp_all [rule], rfl⟩)
set_option maxHeartbeats 1000000 in
/-- the Go function spec.l13Rule -/
theorem sRule_any (m k : Int) (w : World) :
    Calls Try.prog 50 #[.int .i64 m, .int .i64 k] w fun en w9 => en = .returned (.bool (rule m k)) ∧ w = w9 := by
  go_enter Try.func50, Try.ntmps50
  go_wp2_with (first | (go_at_call 47; refine (l01In_any _ _ _ _).mono ?_; rintro en w1 ⟨rfl, rfl⟩))
  all_goals (go_ret; exact ⟨by simp_all [rule], rfl⟩)

set_option maxHeartbeats 2000000 in
theorem iScan_any (A : Option Addr) (n c : Nat) (m k : Int) (xs : List Int) (w : World) (hn : xs.length = n) (hnc : n ≤ c) (hm : n ≤ 1048576) (hr : Rd w A xs) :
    Calls Try.prog 26 #[.slice A n c, .int .i64 m, .int .i64 k] w fun en w9 => en = .returned (.tuple #[.int .i64 (scanVal xs m k), .int .i64 (scanCode xs m k)]) ∧ w = w9 := by
  have bad : scanOk xs m k = false → Hid (scanVal xs m k = 0 ∧ scanCode xs m k = 2) := fun h => by
    show _ ∧ _
    simp [scanVal, scanCode, h]
  by_cases hl : n ≤ 200
  · rcases Bool.eq_false_or_eq_true (allIn 0 1 xs) with ha | ha
    · rcases Bool.eq_false_or_eq_true (rule m k) with hr2 | hr2
      · obtain ⟨k0, k1, m0, m1⟩ := rule_bd hr2
        have hok : scanOk xs m k = true := by simp [scanOk, ha, hr2, hn, hl]
        have HB : Hid (∀ x ∈ xs, -1 ≤ x ∧ x ≤ 1) := fun x hx => by have := allIn_iff.1 ha x hx; omega
        have good : Hid (scanVal xs m k = (if conf xs m k.toNat < 0 then 0 else conf xs m k.toNat) ∧ scanCode xs m k = (if conf xs m k.toNat < 0 then 4 else 0)) := by
          show _ ∧ _
          simp [scanVal, scanCode, hok]
        clear bad hok
        obtain ⟨j, rfl⟩ : ∃ j : Nat, k = j := ⟨k.toNat, by omega⟩
        obtain ⟨v, hv⟩ : ∃ v, v = conf xs m j := ⟨_, rfl⟩
        rw [Int.toNat_natCast, ← hv] at good
        have HV := Lib.hid hv; clear hv
        have h01 : ((decide ((n : Int) ≤ 200)) : Bool) = true := decide_eq_true (by omega)
        rcases Int.lt_or_le v 0 with hv0 | hv0
        · go_enter Try.func26, Try.ntmps26
          go_wp2_with (first | (go_at_call 58; refine (areWithin_any _ _ _ _ _ _ _ (by assumption) (by omega) (by assumption)).mono ?_; rintro en w1 ⟨rfl, rfl⟩) | (go_at_call 52; refine (iRule_any _ _ _).mono ?_; rintro en w1 ⟨rfl, rfl⟩))
          refine (iConfirm_any A n c j m xs _ hn hnc (by omega) hr (by omega) (by omega) HB).mono ?_
          rintro en w1 ⟨rfl, rfl⟩
          rw [← HV.out]
          go_wp2
          go_ret2
          exact ⟨by rw [good.out.1, good.out.2, if_pos hv0, if_pos hv0]; rfl, rfl⟩
        · go_enter Try.func26, Try.ntmps26
          go_wp2_with (first | (go_at_call 58; refine (areWithin_any _ _ _ _ _ _ _ (by assumption) (by omega) (by assumption)).mono ?_; rintro en w1 ⟨rfl, rfl⟩) | (go_at_call 52; refine (iRule_any _ _ _).mono ?_; rintro en w1 ⟨rfl, rfl⟩))
          refine (iConfirm_any A n c j m xs _ hn hnc (by omega) hr (by omega) (by omega) HB).mono ?_
          rintro en w1 ⟨rfl, rfl⟩
          rw [← HV.out]
          go_wp2
          go_ret2
          exact ⟨by rw [good.out.1, good.out.2, if_neg (by omega), if_neg (by omega)]; rfl, rfl⟩
      · have HX := bad (by simp [scanOk, hr2])
        clear bad
        have h01 : ((decide ((n : Int) ≤ 200)) : Bool) = true := decide_eq_true (by omega)
        go_enter Try.func26, Try.ntmps26
        go_wp2_with (first | (go_at_call 58; refine (areWithin_any _ _ _ _ _ _ _ (by assumption) (by omega) (by assumption)).mono ?_; rintro en w1 ⟨rfl, rfl⟩) | (go_at_call 52; refine (iRule_any _ _ _).mono ?_; rintro en w1 ⟨rfl, rfl⟩))
        go_ret2
        exact ⟨by rw [HX.out.1, HX.out.2]; rfl, rfl⟩
    · have HX := bad (by simp [scanOk, ha])
      clear bad
      go_enter Try.func26, Try.ntmps26
      go_wp2_with (first | (go_at_call 58; refine (areWithin_any _ _ _ _ _ _ _ (by assumption) (by omega) (by assumption)).mono ?_; rintro en w1 ⟨rfl, rfl⟩) | (go_at_call 52; refine (iRule_any _ _ _).mono ?_; rintro en w1 ⟨rfl, rfl⟩))
      all_goals (go_ret2; exact ⟨by rw [HX.out.1, HX.out.2]; rfl, rfl⟩)
  · have HX := bad (by simp [scanOk, hn, hl])
    clear bad
    have h01 : ((decide ((n : Int) ≤ 200)) : Bool) = false := decide_eq_false (by omega)
    go_enter Try.func26, Try.ntmps26
    go_wp2_with (first | (go_at_call 58; refine (areWithin_any _ _ _ _ _ _ _ (by assumption) (by omega) (by assumption)).mono ?_; rintro en w1 ⟨rfl, rfl⟩) | (go_at_call 52; refine (iRule_any _ _ _).mono ?_; rintro en w1 ⟨rfl, rfl⟩))
    all_goals (go_ret2; exact ⟨by rw [HX.out.1, HX.out.2]; rfl, rfl⟩)

set_option maxHeartbeats 2000000 in
theorem sScan_any (A : Option Addr) (n c : Nat) (m k : Int) (xs : List Int) (w : World) (hn : xs.length = n) (hnc : n ≤ c) (hm : n ≤ 1048576) (hr : Rd w A xs) :
    Calls Try.prog 24 #[.slice A n c, .int .i64 m, .int .i64 k] w fun en w9 => en = .returned (.tuple #[.int .i64 (scanVal xs m k), .int .i64 (scanCode xs m k)]) ∧ w = w9 := by
  have bad : scanOk xs m k = false → Hid (scanVal xs m k = 0 ∧ scanCode xs m k = 2) := fun h => by
    show _ ∧ _
    simp [scanVal, scanCode, h]
  by_cases hl : n ≤ 200
  · rcases Bool.eq_false_or_eq_true (allIn 0 1 xs) with ha | ha
    · rcases Bool.eq_false_or_eq_true (rule m k) with hr2 | hr2
      · obtain ⟨k0, k1, m0, m1⟩ := rule_bd hr2
        have hok : scanOk xs m k = true := by simp [scanOk, ha, hr2, hn, hl]
        have HB : Hid (∀ x ∈ xs, -1 ≤ x ∧ x ≤ 1) := fun x hx => by have := allIn_iff.1 ha x hx; omega
        have good : Hid (scanVal xs m k = (if conf xs m k.toNat < 0 then 0 else conf xs m k.toNat) ∧ scanCode xs m k = (if conf xs m k.toNat < 0 then 4 else 0)) := by
          show _ ∧ _
          simp [scanVal, scanCode, hok]
        clear bad hok
        obtain ⟨j, rfl⟩ : ∃ j : Nat, k = j := ⟨k.toNat, by omega⟩
        obtain ⟨v, hv⟩ : ∃ v, v = conf xs m j := ⟨_, rfl⟩
        rw [Int.toNat_natCast, ← hv] at good
        have HV := Lib.hid hv; clear hv
        have h01 : ((decide ((n : Int) ≤ 200)) : Bool) = true := decide_eq_true (by omega)
        rcases Int.lt_or_le v 0 with hv0 | hv0
        · go_enter Try.func24, Try.ntmps24
          go_wp2_with (first | (go_at_call 56; refine (l01Within_any _ _ _ _ _ _ _ _ (by assumption) (by omega) (by assumption)).mono ?_; rintro en w1 ⟨rfl, rfl⟩) | (go_at_call 50; refine (sRule_any _ _ _).mono ?_; rintro en w1 ⟨rfl, rfl⟩))
          refine (sConfirm_any A n c j m xs _ hn hnc (by omega) hr (by omega) (by omega) HB).mono ?_
          rintro en w1 ⟨rfl, rfl⟩
          rw [← HV.out]
          go_wp2
          go_ret2
          exact ⟨by rw [good.out.1, good.out.2, if_pos hv0, if_pos hv0]; rfl, rfl⟩
        · go_enter Try.func24, Try.ntmps24
          go_wp2_with (first | (go_at_call 56; refine (l01Within_any _ _ _ _ _ _ _ _ (by assumption) (by omega) (by assumption)).mono ?_; rintro en w1 ⟨rfl, rfl⟩) | (go_at_call 50; refine (sRule_any _ _ _).mono ?_; rintro en w1 ⟨rfl, rfl⟩))
          refine (sConfirm_any A n c j m xs _ hn hnc (by omega) hr (by omega) (by omega) HB).mono ?_
          rintro en w1 ⟨rfl, rfl⟩
          rw [← HV.out]
          go_wp2
          go_ret2
          exact ⟨by rw [good.out.1, good.out.2, if_neg (by omega), if_neg (by omega)]; rfl, rfl⟩
      · have HX := bad (by simp [scanOk, hr2])
        clear bad
        have h01 : ((decide ((n : Int) ≤ 200)) : Bool) = true := decide_eq_true (by omega)
        go_enter Try.func24, Try.ntmps24
        go_wp2_with (first | (go_at_call 56; refine (l01Within_any _ _ _ _ _ _ _ _ (by assumption) (by omega) (by assumption)).mono ?_; rintro en w1 ⟨rfl, rfl⟩) | (go_at_call 50; refine (sRule_any _ _ _).mono ?_; rintro en w1 ⟨rfl, rfl⟩))
        go_ret2
        exact ⟨by rw [HX.out.1, HX.out.2]; rfl, rfl⟩
    · have HX := bad (by simp [scanOk, ha])
      clear bad
      go_enter Try.func24, Try.ntmps24
      go_wp2_with (first | (go_at_call 56; refine (l01Within_any _ _ _ _ _ _ _ _ (by assumption) (by omega) (by assumption)).mono ?_; rintro en w1 ⟨rfl, rfl⟩) | (go_at_call 50; refine (sRule_any _ _ _).mono ?_; rintro en w1 ⟨rfl, rfl⟩))
      all_goals (go_ret2; exact ⟨by rw [HX.out.1, HX.out.2]; rfl, rfl⟩)
  · have HX := bad (by simp [scanOk, hn, hl])
    clear bad
    have h01 : ((decide ((n : Int) ≤ 200)) : Bool) = false := decide_eq_false (by omega)
    go_enter Try.func24, Try.ntmps24
    go_wp2_with (first | (go_at_call 56; refine (l01Within_any _ _ _ _ _ _ _ _ (by assumption) (by omega) (by assumption)).mono ?_; rintro en w1 ⟨rfl, rfl⟩) | (go_at_call 50; refine (sRule_any _ _ _).mono ?_; rintro en w1 ⟨rfl, rfl⟩))
    all_goals (go_ret2; exact ⟨by rw [HX.out.1, HX.out.2]; rfl, rfl⟩)
end Go.Proofs.Ytoaldcibmcmfdaa
