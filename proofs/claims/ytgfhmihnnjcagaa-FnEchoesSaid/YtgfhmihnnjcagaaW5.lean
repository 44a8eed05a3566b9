/- walks: signals, traces, scalar answers -/
import Derived.Test.YtgfhmihnnjcagaaW4
set_option linter.unusedVariables false
set_option linter.unusedSimpArgs false
namespace Go.Proofs.Ytgfhmihnnjcagaa
open Go.RowKit

theorem bquiet {w w9 : World} {m : Nat} (h : w9 = w.drewN m) : Below w.heap.size w w9 := by rw [h]; exact below_drewN (Below.refl _ _) _
def isTrc (xs : List Int) : Bool := decide (xs.length ≤ 400) && allIn (-1000000000000) 1000000000000 xs
theorem isTrc_iff {xs : List Int} : isTrc xs = true ↔ xs.length ≤ 400 ∧ Val xs := by
  simp only [isTrc, Bool.and_eq_true, decide_eq_true_eq]
  exact and_congr Iff.rfl allIn_iff

theorem iSig_any (A : Option Addr) (n c : Nat) (xs : List Int) (w : World) (hn : xs.length = n) (hnc : n ≤ c) (hm : n ≤ 1048576) (hr : Rd w A xs) :
    Calls Try.prog 58 #[.slice A n c] w fun en w9 => en = .returned (.bool (isSig xs)) ∧ w = w9 := by
  by_cases hl : n ≤ 400
  · have hd : decide ((n : Int) ≤ 400) = true := decide_eq_true (by omega)
    have HF : Hid (isSig xs = allIn (-1000) 1000 xs) := by show _ = _; unfold isSig; rw [decide_eq_true (by omega)]; rfl
    rcases Bool.eq_false_or_eq_true (allIn (-1000) 1000 xs) with ha | ha
    all_goals (go_enter Try.func58, Try.ntmps58; go_wp2_with (first | (go_at_call 106; refine (areWithin_any _ _ _ _ _ _ _ (by assumption) (by omega) (by assumption)).mono ?_; rintro en w1 ⟨rfl, rfl⟩)); go_ret; exact ⟨by rw [HF.out, ha]; rfl, rfl⟩)
  · have hd : decide ((n : Int) ≤ 400) = false := decide_eq_false (by omega)
    have HF : Hid (isSig xs = false) := by show _ = _; unfold isSig; rw [decide_eq_false (by omega)]; rfl
    rcases Bool.eq_false_or_eq_true (allIn (-1000) 1000 xs) with ha | ha
    all_goals (go_enter Try.func58, Try.ntmps58; go_wp2_with (first | (go_at_call 106; refine (areWithin_any _ _ _ _ _ _ _ (by assumption) (by omega) (by assumption)).mono ?_; rintro en w1 ⟨rfl, rfl⟩)); go_ret; exact ⟨by rw [HF.out]; rfl, rfl⟩)

theorem sSig_any (A : Option Addr) (n c : Nat) (xs : List Int) (w : World) (hn : xs.length = n) (hnc : n ≤ c) (hm : n ≤ 1048576) (hr : Rd w A xs) :
    Calls Try.prog 85 #[.slice A n c] w fun en w9 => en = .returned (.bool (isSig xs)) ∧ w = w9 := by
  by_cases hl : n ≤ 400
  · have hd : decide ((n : Int) ≤ 400) = true := decide_eq_true (by omega)
    have HF : Hid (isSig xs = allIn (-1000) 1000 xs) := by show _ = _; unfold isSig; rw [decide_eq_true (by omega)]; rfl
    rcases Bool.eq_false_or_eq_true (allIn (-1000) 1000 xs) with ha | ha
    all_goals (go_enter Try.func85, Try.ntmps85; go_wp2_with (first | (go_at_call 95; refine (l01Within_any _ _ _ _ _ _ _ _ (by assumption) (by omega) (by assumption)).mono ?_; rintro en w1 ⟨rfl, rfl⟩)); go_ret; exact ⟨by rw [HF.out, ha]; rfl, rfl⟩)
  · have hd : decide ((n : Int) ≤ 400) = false := decide_eq_false (by omega)
    have HF : Hid (isSig xs = false) := by show _ = _; unfold isSig; rw [decide_eq_false (by omega)]; rfl
    rcases Bool.eq_false_or_eq_true (allIn (-1000) 1000 xs) with ha | ha
    all_goals (go_enter Try.func85, Try.ntmps85; go_wp2_with (first | (go_at_call 95; refine (l01Within_any _ _ _ _ _ _ _ _ (by assumption) (by omega) (by assumption)).mono ?_; rintro en w1 ⟨rfl, rfl⟩)); go_ret; exact ⟨by rw [HF.out]; rfl, rfl⟩)

theorem iTrc_any (A : Option Addr) (n c : Nat) (xs : List Int) (w : World) (hn : xs.length = n) (hnc : n ≤ c) (hm : n ≤ 1048576) (hr : Rd w A xs) :
    Calls Try.prog 78 #[.slice A n c] w fun en w9 => en = .returned (.bool (isTrc xs)) ∧ w = w9 := by
  by_cases hl : n ≤ 400
  · have hd : decide ((n : Int) ≤ 400) = true := decide_eq_true (by omega)
    have HF : Hid (isTrc xs = allIn (-1000000000000) 1000000000000 xs) := by show _ = _; unfold isTrc; rw [decide_eq_true (by omega)]; rfl
    rcases Bool.eq_false_or_eq_true (allIn (-1000000000000) 1000000000000 xs) with ha | ha
    all_goals (go_enter Try.func78, Try.ntmps78; go_wp2_with (first | (go_at_call 106; refine (areWithin_any _ _ _ _ _ _ _ (by assumption) (by omega) (by assumption)).mono ?_; rintro en w1 ⟨rfl, rfl⟩)); go_ret; exact ⟨by rw [HF.out, ha]; rfl, rfl⟩)
  · have hd : decide ((n : Int) ≤ 400) = false := decide_eq_false (by omega)
    have HF : Hid (isTrc xs = false) := by show _ = _; unfold isTrc; rw [decide_eq_false (by omega)]; rfl
    rcases Bool.eq_false_or_eq_true (allIn (-1000000000000) 1000000000000 xs) with ha | ha
    all_goals (go_enter Try.func78, Try.ntmps78; go_wp2_with (first | (go_at_call 106; refine (areWithin_any _ _ _ _ _ _ _ (by assumption) (by omega) (by assumption)).mono ?_; rintro en w1 ⟨rfl, rfl⟩)); go_ret; exact ⟨by rw [HF.out]; rfl, rfl⟩)

theorem sTrc_any (A : Option Addr) (n c : Nat) (xs : List Int) (w : World) (hn : xs.length = n) (hnc : n ≤ c) (hm : n ≤ 1048576) (hr : Rd w A xs) :
    Calls Try.prog 73 #[.slice A n c] w fun en w9 => en = .returned (.bool (isTrc xs)) ∧ w = w9 := by
  by_cases hl : n ≤ 400
  · have hd : decide ((n : Int) ≤ 400) = true := decide_eq_true (by omega)
    have HF : Hid (isTrc xs = allIn (-1000000000000) 1000000000000 xs) := by show _ = _; unfold isTrc; rw [decide_eq_true (by omega)]; rfl
    rcases Bool.eq_false_or_eq_true (allIn (-1000000000000) 1000000000000 xs) with ha | ha
    all_goals (go_enter Try.func73, Try.ntmps73; go_wp2_with (first | (go_at_call 95; refine (l01Within_any _ _ _ _ _ _ _ _ (by assumption) (by omega) (by assumption)).mono ?_; rintro en w1 ⟨rfl, rfl⟩)); go_ret; exact ⟨by rw [HF.out, ha]; rfl, rfl⟩)
  · have hd : decide ((n : Int) ≤ 400) = false := decide_eq_false (by omega)
    have HF : Hid (isTrc xs = false) := by show _ = _; unfold isTrc; rw [decide_eq_false (by omega)]; rfl
    rcases Bool.eq_false_or_eq_true (allIn (-1000000000000) 1000000000000 xs) with ha | ha
    all_goals (go_enter Try.func73, Try.ntmps73; go_wp2_with (first | (go_at_call 95; refine (l01Within_any _ _ _ _ _ _ _ _ (by assumption) (by omega) (by assumption)).mono ?_; rintro en w1 ⟨rfl, rfl⟩)); go_ret; exact ⟨by rw [HF.out]; rfl, rfl⟩)

def wtVal (xs : List Int) : Int := if isSig xs then wt xs else 0
def wtCode (xs : List Int) : Int := if isSig xs then 0 else 1
def pkVal (xs : List Int) : Int := if isTrc xs then (if xs.length = 0 then 0 else peakIx xs) else 0
def pkCode (xs : List Int) : Int := if isTrc xs then (if xs.length = 0 then 4 else 0) else 1
set_option maxHeartbeats 2000000 in
theorem iWeight_any (A : Option Addr) (n c : Nat) (xs : List Int) (w : World) (hn : xs.length = n) (hnc : n ≤ c) (hm : n ≤ 1048576) (hr : Rd w A xs) :
    Calls Try.prog 29 #[.slice A n c] w fun en w9 => en = .returned (.tuple #[.int .i64 (wtVal xs), .int .i64 (wtCode xs)]) ∧ ∃ m, w9 = w.drewN m := by

  rcases Bool.eq_false_or_eq_true (isSig xs) with h | h
  · have hs := isSig_iff.1 h
    have hl : n ≤ 400 := by rw [← hn]; exact hs.1
    have HB := Lib.hid hs.2
    have HV : Hid (wtVal xs = wt xs ∧ wtCode xs = 0) := by show _ ∧ _; simp [wtVal, wtCode, h]
    clear hs
    go_enter Try.func29, Try.ntmps29; go_wp2_with (first | (go_at_call 58; refine (iSig_any _ _ _ _ _ (by assumption) (by assumption) (by omega) (by first | assumption | exact Rd.drewN (by assumption) _ | exact Rd.drewN (Rd.drewN (by assumption) _) _)).mono ?_; rintro en w1 ⟨rfl, rfl⟩) | (go_at_call 87; refine (iWt_any _ _ _ _ _ (by assumption) (by omega) (by assumption) (by first | assumption | exact Rd.drewN (by assumption) _ | exact Rd.drewN (Rd.drewN (by assumption) _) _)).mono ?_; rintro en w1 ⟨rfl, rfl⟩)); go_ret2; exact ⟨by rw [HV.out.1, HV.out.2]; rfl, (by first | exact ⟨_, rfl⟩ | exact ⟨0, rfl⟩)⟩
  · have HV : Hid (wtVal xs = 0 ∧ wtCode xs = 1) := by show _ ∧ _; simp [wtVal, wtCode, h]
    go_enter Try.func29, Try.ntmps29; go_wp2_with (first | (go_at_call 58; refine (iSig_any _ _ _ _ _ (by assumption) (by assumption) (by omega) (by first | assumption | exact Rd.drewN (by assumption) _ | exact Rd.drewN (Rd.drewN (by assumption) _) _)).mono ?_; rintro en w1 ⟨rfl, rfl⟩) | (go_at_call 87; refine (iWt_any _ _ _ _ _ (by assumption) (by omega) (by assumption) (by first | assumption | exact Rd.drewN (by assumption) _ | exact Rd.drewN (Rd.drewN (by assumption) _) _)).mono ?_; rintro en w1 ⟨rfl, rfl⟩)); go_ret2; exact ⟨by rw [HV.out.1, HV.out.2]; rfl, (by first | exact ⟨_, rfl⟩ | exact ⟨0, rfl⟩)⟩
set_option maxHeartbeats 2000000 in
theorem sWeight_any (A : Option Addr) (n c : Nat) (xs : List Int) (w : World) (hn : xs.length = n) (hnc : n ≤ c) (hm : n ≤ 1048576) (hr : Rd w A xs) :
    Calls Try.prog 28 #[.slice A n c] w fun en w9 => en = .returned (.tuple #[.int .i64 (wtVal xs), .int .i64 (wtCode xs)]) ∧ ∃ m, w9 = w.drewN m := by

  rcases Bool.eq_false_or_eq_true (isSig xs) with h | h
  · have hs := isSig_iff.1 h
    have hl : n ≤ 400 := by rw [← hn]; exact hs.1
    have HB := Lib.hid hs.2
    have HV : Hid (wtVal xs = wt xs ∧ wtCode xs = 0) := by show _ ∧ _; simp [wtVal, wtCode, h]
    clear hs
    go_enter Try.func28, Try.ntmps28; go_wp2_with (first | (go_at_call 85; refine (sSig_any _ _ _ _ _ (by assumption) (by assumption) (by omega) (by first | assumption | exact Rd.drewN (by assumption) _ | exact Rd.drewN (Rd.drewN (by assumption) _) _)).mono ?_; rintro en w1 ⟨rfl, rfl⟩) | (go_at_call 86; refine (sWt_any _ _ _ _ _ (by assumption) (by omega) (by assumption) (by first | assumption | exact Rd.drewN (by assumption) _ | exact Rd.drewN (Rd.drewN (by assumption) _) _)).mono ?_; rintro en w1 ⟨rfl, rfl⟩)); go_ret2; exact ⟨by rw [HV.out.1, HV.out.2]; rfl, (by first | exact ⟨_, rfl⟩ | exact ⟨0, rfl⟩)⟩
  · have HV : Hid (wtVal xs = 0 ∧ wtCode xs = 1) := by show _ ∧ _; simp [wtVal, wtCode, h]
    go_enter Try.func28, Try.ntmps28; go_wp2_with (first | (go_at_call 85; refine (sSig_any _ _ _ _ _ (by assumption) (by assumption) (by omega) (by first | assumption | exact Rd.drewN (by assumption) _ | exact Rd.drewN (Rd.drewN (by assumption) _) _)).mono ?_; rintro en w1 ⟨rfl, rfl⟩) | (go_at_call 86; refine (sWt_any _ _ _ _ _ (by assumption) (by omega) (by assumption) (by first | assumption | exact Rd.drewN (by assumption) _ | exact Rd.drewN (Rd.drewN (by assumption) _) _)).mono ?_; rintro en w1 ⟨rfl, rfl⟩)); go_ret2; exact ⟨by rw [HV.out.1, HV.out.2]; rfl, (by first | exact ⟨_, rfl⟩ | exact ⟨0, rfl⟩)⟩
set_option maxHeartbeats 2000000 in
theorem iPeakOf_any (A : Option Addr) (n c : Nat) (xs : List Int) (w : World) (hn : xs.length = n) (hnc : n ≤ c) (hm : n ≤ 1048576) (hr : Rd w A xs) :
    Calls Try.prog 31 #[.slice A n c] w fun en w9 => en = .returned (.tuple #[.int .i64 (pkVal xs), .int .i64 (pkCode xs)]) ∧ ∃ m, w9 = w.drewN m := by

  rcases Bool.eq_false_or_eq_true (isTrc xs) with h | h
  · have hs := isTrc_iff.1 h
    have hl : n ≤ 400 := by rw [← hn]; exact hs.1
    have HB := Lib.hid hs.2
    clear hs
    by_cases h0 : n = 0
    · have HV : Hid (pkVal xs = 0 ∧ pkCode xs = 4) := by show _ ∧ _; simp [pkVal, pkCode, h, hn, h0]
      subst h0
      go_enter Try.func31, Try.ntmps31; go_wp2_with (first | (go_at_call 78; refine (iTrc_any _ _ _ _ _ (by assumption) (by assumption) (by omega) (by first | assumption | exact Rd.drewN (by assumption) _ | exact Rd.drewN (Rd.drewN (by assumption) _) _)).mono ?_; rintro en w1 ⟨rfl, rfl⟩) | (go_at_call 81; refine (iPeak_any _ _ _ _ _ (by assumption) (by omega) (by assumption) (by omega) (by first | assumption | exact Rd.drewN (by assumption) _ | exact Rd.drewN (Rd.drewN (by assumption) _) _)).mono ?_; rintro en w1 ⟨rfl, mq, rfl⟩)); go_ret2; exact ⟨by rw [HV.out.1, HV.out.2]; rfl, (by first | exact ⟨_, rfl⟩ | exact ⟨0, rfl⟩)⟩
    · have HV : Hid (pkVal xs = peakIx xs ∧ pkCode xs = 0) := by show _ ∧ _; simp [pkVal, pkCode, h, hn, h0]
      have hb0 : ((n : Int) == 0) = false := by simp; omega
      go_enter Try.func31, Try.ntmps31; go_wp2_with (first | (go_at_call 78; refine (iTrc_any _ _ _ _ _ (by assumption) (by assumption) (by omega) (by first | assumption | exact Rd.drewN (by assumption) _ | exact Rd.drewN (Rd.drewN (by assumption) _) _)).mono ?_; rintro en w1 ⟨rfl, rfl⟩) | (go_at_call 81; refine (iPeak_any _ _ _ _ _ (by assumption) (by omega) (by assumption) (by omega) (by first | assumption | exact Rd.drewN (by assumption) _ | exact Rd.drewN (Rd.drewN (by assumption) _) _)).mono ?_; rintro en w1 ⟨rfl, mq, rfl⟩)); go_ret2; exact ⟨by rw [HV.out.1, HV.out.2]; rfl, (by first | exact ⟨_, rfl⟩ | exact ⟨0, rfl⟩)⟩
  · have HV : Hid (pkVal xs = 0 ∧ pkCode xs = 1) := by show _ ∧ _; simp [pkVal, pkCode, h]
    go_enter Try.func31, Try.ntmps31; go_wp2_with (first | (go_at_call 78; refine (iTrc_any _ _ _ _ _ (by assumption) (by assumption) (by omega) (by first | assumption | exact Rd.drewN (by assumption) _ | exact Rd.drewN (Rd.drewN (by assumption) _) _)).mono ?_; rintro en w1 ⟨rfl, rfl⟩) | (go_at_call 81; refine (iPeak_any _ _ _ _ _ (by assumption) (by omega) (by assumption) (by omega) (by first | assumption | exact Rd.drewN (by assumption) _ | exact Rd.drewN (Rd.drewN (by assumption) _) _)).mono ?_; rintro en w1 ⟨rfl, mq, rfl⟩)); go_ret2; exact ⟨by rw [HV.out.1, HV.out.2]; rfl, (by first | exact ⟨_, rfl⟩ | exact ⟨0, rfl⟩)⟩
set_option maxHeartbeats 2000000 in
theorem sPeakOf_any (A : Option Addr) (n c : Nat) (xs : List Int) (w : World) (hn : xs.length = n) (hnc : n ≤ c) (hm : n ≤ 1048576) (hr : Rd w A xs) :
    Calls Try.prog 30 #[.slice A n c] w fun en w9 => en = .returned (.tuple #[.int .i64 (pkVal xs), .int .i64 (pkCode xs)]) ∧ ∃ m, w9 = w.drewN m := by

  rcases Bool.eq_false_or_eq_true (isTrc xs) with h | h
  · have hs := isTrc_iff.1 h
    have hl : n ≤ 400 := by rw [← hn]; exact hs.1
    have HB := Lib.hid hs.2
    clear hs
    by_cases h0 : n = 0
    · have HV : Hid (pkVal xs = 0 ∧ pkCode xs = 4) := by show _ ∧ _; simp [pkVal, pkCode, h, hn, h0]
      subst h0
      go_enter Try.func30, Try.ntmps30; go_wp2_with (first | (go_at_call 73; refine (sTrc_any _ _ _ _ _ (by assumption) (by assumption) (by omega) (by first | assumption | exact Rd.drewN (by assumption) _ | exact Rd.drewN (Rd.drewN (by assumption) _) _)).mono ?_; rintro en w1 ⟨rfl, rfl⟩) | (go_at_call 88; refine (sPeak_any _ _ _ _ _ (by assumption) (by omega) (by assumption) (by omega) (by first | assumption | exact Rd.drewN (by assumption) _ | exact Rd.drewN (Rd.drewN (by assumption) _) _)).mono ?_; rintro en w1 ⟨rfl, mq, rfl⟩)); go_ret2; exact ⟨by rw [HV.out.1, HV.out.2]; rfl, (by first | exact ⟨_, rfl⟩ | exact ⟨0, rfl⟩)⟩
    · have HV : Hid (pkVal xs = peakIx xs ∧ pkCode xs = 0) := by show _ ∧ _; simp [pkVal, pkCode, h, hn, h0]
      have hb0 : ((n : Int) == 0) = false := by simp; omega
      go_enter Try.func30, Try.ntmps30; go_wp2_with (first | (go_at_call 73; refine (sTrc_any _ _ _ _ _ (by assumption) (by assumption) (by omega) (by first | assumption | exact Rd.drewN (by assumption) _ | exact Rd.drewN (Rd.drewN (by assumption) _) _)).mono ?_; rintro en w1 ⟨rfl, rfl⟩) | (go_at_call 88; refine (sPeak_any _ _ _ _ _ (by assumption) (by omega) (by assumption) (by omega) (by first | assumption | exact Rd.drewN (by assumption) _ | exact Rd.drewN (Rd.drewN (by assumption) _) _)).mono ?_; rintro en w1 ⟨rfl, mq, rfl⟩)); go_ret2; exact ⟨by rw [HV.out.1, HV.out.2]; rfl, (by first | exact ⟨_, rfl⟩ | exact ⟨0, rfl⟩)⟩
  · have HV : Hid (pkVal xs = 0 ∧ pkCode xs = 1) := by show _ ∧ _; simp [pkVal, pkCode, h]
    go_enter Try.func30, Try.ntmps30; go_wp2_with (first | (go_at_call 73; refine (sTrc_any _ _ _ _ _ (by assumption) (by assumption) (by omega) (by first | assumption | exact Rd.drewN (by assumption) _ | exact Rd.drewN (Rd.drewN (by assumption) _) _)).mono ?_; rintro en w1 ⟨rfl, rfl⟩) | (go_at_call 88; refine (sPeak_any _ _ _ _ _ (by assumption) (by omega) (by assumption) (by omega) (by first | assumption | exact Rd.drewN (by assumption) _ | exact Rd.drewN (Rd.drewN (by assumption) _) _)).mono ?_; rintro en w1 ⟨rfl, mq, rfl⟩)); go_ret2; exact ⟨by rw [HV.out.1, HV.out.2]; rfl, (by first | exact ⟨_, rfl⟩ | exact ⟨0, rfl⟩)⟩
end Go.Proofs.Ytgfhmihnnjcagaa
