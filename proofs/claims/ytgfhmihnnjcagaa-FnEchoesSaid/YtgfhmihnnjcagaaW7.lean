/- walks: LeastGain -/
import Derived.Test.YtgfhmihnnjcagaaW6
set_option linter.unusedVariables false
set_option linter.unusedSimpArgs false
namespace Go.Proofs.Ytgfhmihnnjcagaa
open Go.RowKit

def lgFound (xs : List Int) (e : Int) : Bool := decide (0 < excess xs) && decide ((most xs e).tdiv (excess xs) + 1 ≤ 1000)
def lgVal (xs : List Int) (e : Int) : Int := if isSig xs && inR e 0 1000 && lgFound xs e then (most xs e).tdiv (excess xs) + 1 else 0
def lgCode (xs : List Int) (e : Int) : Int := if isSig xs then (if inR e 0 1000 then (if lgFound xs e then 0 else 4) else 2) else 1
theorem lg_hit {xs : List Int} {e k : Int} (hm : 0 ≤ most xs e) (hk : 1 ≤ k) (hk2 : k ≤ 1000) (h1 : (k - 1) * excess xs ≤ most xs e) (h2 : most xs e < k * excess xs) : lgFound xs e = true ∧ (most xs e).tdiv (excess xs) + 1 = k := by
  have hx : 0 < excess xs := by
    rcases Int.lt_or_le 0 (excess xs) with h | h
    · exact h
    · have := Int.mul_nonneg_of_nonpos_of_nonpos (a := -k) (b := excess xs) (by omega) h
      rw [Int.neg_mul] at this; omega
  have hd : (most xs e).tdiv (excess xs) = k - 1 := by
    rw [Int.tdiv_eq_ediv_of_nonneg hm]
    rw [Int.sub_mul, Int.one_mul] at h1
    have h3 := Int.le_ediv_of_mul_le hx (a := k - 1) (by rw [Int.sub_mul, Int.one_mul]; exact h1)
    have h4 := Int.ediv_lt_of_lt_mul hx h2
    omega
  exact ⟨by simp [lgFound, hx, hd]; omega, by omega⟩
theorem lg_miss {xs : List Int} {e : Int} (hm : 0 ≤ most xs e) (h1 : 1000 * excess xs ≤ most xs e) : lgFound xs e = false := by
  unfold lgFound
  rcases Int.lt_or_le 0 (excess xs) with h | h
  · have h3 := Int.le_ediv_of_mul_le h (a := 1000) h1
    rw [Int.tdiv_eq_ediv_of_nonneg hm]
    simp; intro _; omega
  · simp; omega
set_option maxHeartbeats 2000000 in
theorem iLeast_any (A : Option Addr) (n c : Nat) (xs : List Int) (e : Int) (w : World) (hn : xs.length = n) (hnc : n ≤ c) (hm : n ≤ 1048576) (hr : Rd w A xs) :
    Calls Try.prog 48 #[.slice A n c, .int .i64 e] w fun en w9 => en = .returned (.tuple #[.int .i64 (lgVal xs e), .int .i64 (lgCode xs e)]) ∧ ∃ m, w9 = w.drewN m := by
  rcases Bool.eq_false_or_eq_true (isSig xs) with h | h
  · have hs := isSig_iff.1 h
    have hl : n ≤ 400 := by rw [← hn]; exact hs.1
    have HB := Lib.hid hs.2
    have hlx := hs.1
    clear hs
    rcases Bool.eq_false_or_eq_true (inR e 0 1000) with h1 | h1
    · have e2 := inR_iff.1 h1
      have h3 := wt_bd HB.out hlx
      have h6 := mul_bd (a := 2 * e) (b := wt xs) (A := 2000) (B := 400000) (by omega) (by omega)
      have h7 := most_bd HB.out hlx e2.1 e2.2
      have h8 := corr_bd HB.out hlx 0
      have h9 := side_bd HB.out hlx
      have hE : 2 * e * wt xs = most xs e := rfl
      have hX : corr xs 0 - side xs = excess xs := rfl
      have h10 := excess_bd HB.out hlx
      rcases Int.lt_or_le 0 (excess xs) with hx | hx
      · have hq0 : 0 ≤ (most xs e).tdiv (excess xs) := Int.tdiv_nonneg h7.1 (by omega)
        have hq1 : (most xs e).tdiv (excess xs) ≤ most xs e := by
          rw [Int.tdiv_eq_ediv_of_nonneg h7.1]; exact Int.ediv_le_self _ h7.1
        have hx0 : (excess xs == 0) = false := by simp; omega
        have hx1 : ¬ excess xs = 0 := by omega
        have hx2 : ¬ excess xs ≤ 0 := by omega
        rcases Int.lt_or_le 1000 ((most xs e).tdiv (excess xs) + 1) with hg | hg
        · have HV : Hid (lgVal xs e = 0 ∧ lgCode xs e = 4) := by
            have : lgFound xs e = false := by simp [lgFound]; intro _; omega
            show _ ∧ _; simp [lgVal, lgCode, h, h1, this]
          go_enter Try.func48, Try.ntmps48; go_wp2_with (first | (go_at_call 58; refine (iSig_any _ _ _ _ _ (by assumption) (by assumption) (by omega) (by first | assumption | exact Rd.drewN (by assumption) _ | exact Rd.drewN (Rd.drewN (by assumption) _) _)).mono ?_; rintro en w1 ⟨rfl, rfl⟩) | (go_at_call 79; refine (within_any _ _ _ _).mono ?_; rintro en w1 ⟨rfl, rfl⟩) | (go_at_call 94; refine (iCorr0_any _ _ _ _ _ (by assumption) (by omega) (by assumption) (by first | assumption | exact Rd.drewN (by assumption) _ | exact Rd.drewN (Rd.drewN (by assumption) _) _)).mono ?_; rintro en w1 ⟨rfl, mq, rfl⟩) | (go_at_call 104; refine (iSide_any _ _ _ _ _ (by assumption) (by omega) (by assumption) (by first | assumption | exact Rd.drewN (by assumption) _ | exact Rd.drewN (Rd.drewN (by assumption) _) _)).mono ?_; rintro en w1 ⟨rfl, mq, rfl⟩) | (go_at_call 87; refine (iWt_any _ _ _ _ _ (by assumption) (by omega) (by assumption) (by first | assumption | exact Rd.drewN (by assumption) _ | exact Rd.drewN (Rd.drewN (by assumption) _) _)).mono ?_; rintro en w1 ⟨rfl, rfl⟩)); go_ret2; exact ⟨by rw [HV.out.1, HV.out.2]; rfl, (by first | exact ⟨_, rfl⟩ | exact ⟨0, rfl⟩)⟩
        · have HV : Hid (lgVal xs e = (most xs e).tdiv (excess xs) + 1 ∧ lgCode xs e = 0) := by
            have : lgFound xs e = true := by simp [lgFound, hx]; omega
            show _ ∧ _; simp [lgVal, lgCode, h, h1, this]
          go_enter Try.func48, Try.ntmps48; go_wp2_with (first | (go_at_call 58; refine (iSig_any _ _ _ _ _ (by assumption) (by assumption) (by omega) (by first | assumption | exact Rd.drewN (by assumption) _ | exact Rd.drewN (Rd.drewN (by assumption) _) _)).mono ?_; rintro en w1 ⟨rfl, rfl⟩) | (go_at_call 79; refine (within_any _ _ _ _).mono ?_; rintro en w1 ⟨rfl, rfl⟩) | (go_at_call 94; refine (iCorr0_any _ _ _ _ _ (by assumption) (by omega) (by assumption) (by first | assumption | exact Rd.drewN (by assumption) _ | exact Rd.drewN (Rd.drewN (by assumption) _) _)).mono ?_; rintro en w1 ⟨rfl, mq, rfl⟩) | (go_at_call 104; refine (iSide_any _ _ _ _ _ (by assumption) (by omega) (by assumption) (by first | assumption | exact Rd.drewN (by assumption) _ | exact Rd.drewN (Rd.drewN (by assumption) _) _)).mono ?_; rintro en w1 ⟨rfl, mq, rfl⟩) | (go_at_call 87; refine (iWt_any _ _ _ _ _ (by assumption) (by omega) (by assumption) (by first | assumption | exact Rd.drewN (by assumption) _ | exact Rd.drewN (Rd.drewN (by assumption) _) _)).mono ?_; rintro en w1 ⟨rfl, rfl⟩)); go_ret2; exact ⟨by rw [HV.out.1, HV.out.2]; rfl, (by first | exact ⟨_, rfl⟩ | exact ⟨0, rfl⟩)⟩
      · have HV : Hid (lgVal xs e = 0 ∧ lgCode xs e = 4) := by
          have : lgFound xs e = false := by simp [lgFound]; intro _; omega
          show _ ∧ _; simp [lgVal, lgCode, h, h1, this]
        go_enter Try.func48, Try.ntmps48; go_wp2_with (first | (go_at_call 58; refine (iSig_any _ _ _ _ _ (by assumption) (by assumption) (by omega) (by first | assumption | exact Rd.drewN (by assumption) _ | exact Rd.drewN (Rd.drewN (by assumption) _) _)).mono ?_; rintro en w1 ⟨rfl, rfl⟩) | (go_at_call 79; refine (within_any _ _ _ _).mono ?_; rintro en w1 ⟨rfl, rfl⟩) | (go_at_call 94; refine (iCorr0_any _ _ _ _ _ (by assumption) (by omega) (by assumption) (by first | assumption | exact Rd.drewN (by assumption) _ | exact Rd.drewN (Rd.drewN (by assumption) _) _)).mono ?_; rintro en w1 ⟨rfl, mq, rfl⟩) | (go_at_call 104; refine (iSide_any _ _ _ _ _ (by assumption) (by omega) (by assumption) (by first | assumption | exact Rd.drewN (by assumption) _ | exact Rd.drewN (Rd.drewN (by assumption) _) _)).mono ?_; rintro en w1 ⟨rfl, mq, rfl⟩) | (go_at_call 87; refine (iWt_any _ _ _ _ _ (by assumption) (by omega) (by assumption) (by first | assumption | exact Rd.drewN (by assumption) _ | exact Rd.drewN (Rd.drewN (by assumption) _) _)).mono ?_; rintro en w1 ⟨rfl, rfl⟩)); go_ret2; exact ⟨by rw [HV.out.1, HV.out.2]; rfl, (by first | exact ⟨_, rfl⟩ | exact ⟨0, rfl⟩)⟩
    · have HV : Hid (lgVal xs e = 0 ∧ lgCode xs e = 2) := by show _ ∧ _; simp [lgVal, lgCode, h, h1]
      go_enter Try.func48, Try.ntmps48; go_wp2_with (first | (go_at_call 58; refine (iSig_any _ _ _ _ _ (by assumption) (by assumption) (by omega) (by first | assumption | exact Rd.drewN (by assumption) _ | exact Rd.drewN (Rd.drewN (by assumption) _) _)).mono ?_; rintro en w1 ⟨rfl, rfl⟩) | (go_at_call 79; refine (within_any _ _ _ _).mono ?_; rintro en w1 ⟨rfl, rfl⟩) | (go_at_call 94; refine (iCorr0_any _ _ _ _ _ (by assumption) (by omega) (by assumption) (by first | assumption | exact Rd.drewN (by assumption) _ | exact Rd.drewN (Rd.drewN (by assumption) _) _)).mono ?_; rintro en w1 ⟨rfl, mq, rfl⟩) | (go_at_call 104; refine (iSide_any _ _ _ _ _ (by assumption) (by omega) (by assumption) (by first | assumption | exact Rd.drewN (by assumption) _ | exact Rd.drewN (Rd.drewN (by assumption) _) _)).mono ?_; rintro en w1 ⟨rfl, mq, rfl⟩) | (go_at_call 87; refine (iWt_any _ _ _ _ _ (by assumption) (by omega) (by assumption) (by first | assumption | exact Rd.drewN (by assumption) _ | exact Rd.drewN (Rd.drewN (by assumption) _) _)).mono ?_; rintro en w1 ⟨rfl, rfl⟩)); go_ret2; exact ⟨by rw [HV.out.1, HV.out.2]; rfl, (by first | exact ⟨_, rfl⟩ | exact ⟨0, rfl⟩)⟩
  · have HV : Hid (lgVal xs e = 0 ∧ lgCode xs e = 1) := by show _ ∧ _; simp [lgVal, lgCode, h]
    go_enter Try.func48, Try.ntmps48; go_wp2_with (first | (go_at_call 58; refine (iSig_any _ _ _ _ _ (by assumption) (by assumption) (by omega) (by first | assumption | exact Rd.drewN (by assumption) _ | exact Rd.drewN (Rd.drewN (by assumption) _) _)).mono ?_; rintro en w1 ⟨rfl, rfl⟩) | (go_at_call 79; refine (within_any _ _ _ _).mono ?_; rintro en w1 ⟨rfl, rfl⟩) | (go_at_call 94; refine (iCorr0_any _ _ _ _ _ (by assumption) (by omega) (by assumption) (by first | assumption | exact Rd.drewN (by assumption) _ | exact Rd.drewN (Rd.drewN (by assumption) _) _)).mono ?_; rintro en w1 ⟨rfl, mq, rfl⟩) | (go_at_call 104; refine (iSide_any _ _ _ _ _ (by assumption) (by omega) (by assumption) (by first | assumption | exact Rd.drewN (by assumption) _ | exact Rd.drewN (Rd.drewN (by assumption) _) _)).mono ?_; rintro en w1 ⟨rfl, mq, rfl⟩) | (go_at_call 87; refine (iWt_any _ _ _ _ _ (by assumption) (by omega) (by assumption) (by first | assumption | exact Rd.drewN (by assumption) _ | exact Rd.drewN (Rd.drewN (by assumption) _) _)).mono ?_; rintro en w1 ⟨rfl, rfl⟩)); go_ret2; exact ⟨by rw [HV.out.1, HV.out.2]; rfl, (by first | exact ⟨_, rfl⟩ | exact ⟨0, rfl⟩)⟩

set_option maxHeartbeats 2000000 in
theorem sLeast_any (A : Option Addr) (n c : Nat) (xs : List Int) (e : Int) (w : World) (hn : xs.length = n) (hnc : n ≤ c) (hm : n ≤ 1048576) (hr : Rd w A xs) :
    Calls Try.prog 47 #[.slice A n c, .int .i64 e] w fun en w9 => en = .returned (.tuple #[.int .i64 (lgVal xs e), .int .i64 (lgCode xs e)]) ∧ ∃ m, w9 = w.drewN m := by
  rcases Bool.eq_false_or_eq_true (isSig xs) with h | h
  · have hs := isSig_iff.1 h
    have hl : n ≤ 400 := by rw [← hn]; exact hs.1
    have HB := Lib.hid hs.2
    have hlx := hs.1
    clear hs
    rcases Bool.eq_false_or_eq_true (inR e 0 1000) with h1 | h1
    · have e2 := inR_iff.1 h1
      have h7 := Lib.hid (most_bd HB.out hlx e2.1 e2.2)
      go_enter Try.func47, Try.ntmps47; go_wp2_with (first | (go_at_call 85; refine (sSig_any _ _ _ _ _ (by assumption) (by assumption) (by omega) (by first | assumption | exact Rd.drewN (by assumption) _ | exact Rd.drewN (Rd.drewN (by assumption) _) _)).mono ?_; rintro en w1 ⟨rfl, rfl⟩) | (go_at_call 74; refine (l01In_any _ _ _ _).mono ?_; rintro en w1 ⟨rfl, rfl⟩) | (go_at_call 98; refine (sClr_any _ _ _ _ _ _ _ (by assumption) (by omega) (by assumption) (by omega) (by omega) (by omega) (by omega) (by first | assumption | exact Rd.drewN (by assumption) _ | exact Rd.drewN (Rd.drewN (by assumption) _) _)).mono ?_; rintro en w1 ⟨rfl, mq, rfl⟩))
      go_loopw [6] (fun i wr => ∃ k m : Nat, 1 ≤ k ∧ k ≤ 1001 ∧ i = .int .i64 (k : Int) ∧ Hid (((k : Int) - 1) * excess xs ≤ most xs e) ∧ wr = w.drewN m) (fun i _ => 1001 - (intOf i).toNat)
      case atStart => exact ⟨1, 0, by omega, by omega, rfl, by show _ ≤ _; rw [show ((1 : Nat) : Int) - 1 = 0 by rfl, Int.zero_mul]; exact h7.out.1, rfl⟩
      case round =>
        obtain ⟨k, m, hk1, hk, rfl, HK, hwr⟩ := hrel
        by_cases hlt : k ≤ 1000
        · have hgk : iabs (k : Int) = k := iabs_pos (by omega)
          rcases Bool.eq_false_or_eq_true (clear xs k e) with hc | hc
          · have hd : most xs e < k * excess xs := by unfold clear at hc; rw [hgk] at hc; exact of_decide_eq_true hc
            have h3 := lg_hit h7.out.1 (by omega) (by omega) HK.out hd
            have HV : Hid (lgVal xs e = k ∧ lgCode xs e = 0) := by
              show _ ∧ _; simp only [lgVal, lgCode, h, h1, h3.1, h3.2, Bool.and_self, if_true, and_self]
            clear h3 hd
            subst hwr
            go_wp2_with (first | (go_at_call 85; refine (sSig_any _ _ _ _ _ (by assumption) (by assumption) (by omega) (by first | assumption | exact Rd.drewN (by assumption) _ | exact Rd.drewN (Rd.drewN (by assumption) _) _)).mono ?_; rintro en w1 ⟨rfl, rfl⟩) | (go_at_call 74; refine (l01In_any _ _ _ _).mono ?_; rintro en w1 ⟨rfl, rfl⟩) | (go_at_call 98; refine (sClr_any _ _ _ _ _ _ _ (by assumption) (by omega) (by assumption) (by omega) (by omega) (by omega) (by omega) (by first | assumption | exact Rd.drewN (by assumption) _ | exact Rd.drewN (Rd.drewN (by assumption) _) _)).mono ?_; rintro en w1 ⟨rfl, mq, rfl⟩))
            go_ret2
            exact ⟨by rw [HV.out.1, HV.out.2]; rfl, by first | exact ⟨_, rfl⟩ | exact ⟨0, rfl⟩⟩
          · have hd : (((k + 1 : Nat) : Int) - 1) * excess xs ≤ most xs e := by
              unfold clear at hc; rw [hgk] at hc
              have h4 := of_decide_eq_false hc
              rw [show ((k + 1 : Nat) : Int) - 1 = k by omega]; omega
            have HD := Lib.hid hd; clear hd
            subst hwr
            go_wp2_with (first | (go_at_call 85; refine (sSig_any _ _ _ _ _ (by assumption) (by assumption) (by omega) (by first | assumption | exact Rd.drewN (by assumption) _ | exact Rd.drewN (Rd.drewN (by assumption) _) _)).mono ?_; rintro en w1 ⟨rfl, rfl⟩) | (go_at_call 74; refine (l01In_any _ _ _ _).mono ?_; rintro en w1 ⟨rfl, rfl⟩) | (go_at_call 98; refine (sClr_any _ _ _ _ _ _ _ (by assumption) (by omega) (by assumption) (by omega) (by omega) (by omega) (by omega) (by first | assumption | exact Rd.drewN (by assumption) _ | exact Rd.drewN (Rd.drewN (by assumption) _) _)).mono ?_; rintro en w1 ⟨rfl, mq, rfl⟩))
            go_roundw
            case rel => exact ⟨k + 1, _, by omega, by omega, by go_num, HD, rfl⟩
            case measure => simp [intOf]; omega
        · obtain rfl : k = 1001 := by omega
          have HV : Hid (lgVal xs e = 0 ∧ lgCode xs e = 4) := by
            have : lgFound xs e = false := lg_miss h7.out.1 HK.out
            show _ ∧ _; simp [lgVal, lgCode, h, h1, this]
          subst hwr
          go_wp2_with (first | (go_at_call 85; refine (sSig_any _ _ _ _ _ (by assumption) (by assumption) (by omega) (by first | assumption | exact Rd.drewN (by assumption) _ | exact Rd.drewN (Rd.drewN (by assumption) _) _)).mono ?_; rintro en w1 ⟨rfl, rfl⟩) | (go_at_call 74; refine (l01In_any _ _ _ _).mono ?_; rintro en w1 ⟨rfl, rfl⟩) | (go_at_call 98; refine (sClr_any _ _ _ _ _ _ _ (by assumption) (by omega) (by assumption) (by omega) (by omega) (by omega) (by omega) (by first | assumption | exact Rd.drewN (by assumption) _ | exact Rd.drewN (Rd.drewN (by assumption) _) _)).mono ?_; rintro en w1 ⟨rfl, mq, rfl⟩))
          go_ret2
          exact ⟨by rw [HV.out.1, HV.out.2]; rfl, by first | exact ⟨_, rfl⟩ | exact ⟨0, rfl⟩⟩
    · have HV : Hid (lgVal xs e = 0 ∧ lgCode xs e = 2) := by show _ ∧ _; simp [lgVal, lgCode, h, h1]
      go_enter Try.func47, Try.ntmps47; go_wp2_with (first | (go_at_call 85; refine (sSig_any _ _ _ _ _ (by assumption) (by assumption) (by omega) (by first | assumption | exact Rd.drewN (by assumption) _ | exact Rd.drewN (Rd.drewN (by assumption) _) _)).mono ?_; rintro en w1 ⟨rfl, rfl⟩) | (go_at_call 74; refine (l01In_any _ _ _ _).mono ?_; rintro en w1 ⟨rfl, rfl⟩) | (go_at_call 98; refine (sClr_any _ _ _ _ _ _ _ (by assumption) (by omega) (by assumption) (by omega) (by omega) (by omega) (by omega) (by first | assumption | exact Rd.drewN (by assumption) _ | exact Rd.drewN (Rd.drewN (by assumption) _) _)).mono ?_; rintro en w1 ⟨rfl, mq, rfl⟩)); go_ret2; exact ⟨by rw [HV.out.1, HV.out.2]; rfl, (by first | exact ⟨_, rfl⟩ | exact ⟨0, rfl⟩)⟩
  · have HV : Hid (lgVal xs e = 0 ∧ lgCode xs e = 1) := by show _ ∧ _; simp [lgVal, lgCode, h]
    go_enter Try.func47, Try.ntmps47; go_wp2_with (first | (go_at_call 85; refine (sSig_any _ _ _ _ _ (by assumption) (by assumption) (by omega) (by first | assumption | exact Rd.drewN (by assumption) _ | exact Rd.drewN (Rd.drewN (by assumption) _) _)).mono ?_; rintro en w1 ⟨rfl, rfl⟩) | (go_at_call 74; refine (l01In_any _ _ _ _).mono ?_; rintro en w1 ⟨rfl, rfl⟩) | (go_at_call 98; refine (sClr_any _ _ _ _ _ _ _ (by assumption) (by omega) (by assumption) (by omega) (by omega) (by omega) (by omega) (by first | assumption | exact Rd.drewN (by assumption) _ | exact Rd.drewN (Rd.drewN (by assumption) _) _)).mono ?_; rintro en w1 ⟨rfl, mq, rfl⟩)); go_ret2; exact ⟨by rw [HV.out.1, HV.out.2]; rfl, (by first | exact ⟨_, rfl⟩ | exact ⟨0, rfl⟩)⟩
end Go.Proofs.Ytgfhmihnnjcagaa
