/- walks: MatchSignal, DelayOf -/
import Derived.Test.YtgfhmihnnjcagaaW9
set_option linter.unusedVariables false
set_option linter.unusedSimpArgs false
namespace Go.Proofs.Ytgfhmihnnjcagaa
open Go.RowKit

theorem mCode_zero {xs ps : List Int} (h : mCode xs ps = 0) : isSig xs = true ∧ isSig ps = true ∧ 1 ≤ ps.length ∧ ps.length ≤ xs.length := by
  unfold mCode at h
  by_cases h1 : (isSig xs && isSig ps) = true
  · rw [if_pos h1] at h
    by_cases h2 : ps.length = 0 ∨ xs.length < ps.length
    · rw [if_pos h2] at h; omega
    · simp only [Bool.and_eq_true] at h1; exact ⟨h1.1, h1.2, by omega, by omega⟩
  · rw [if_neg h1] at h; omega
def msVal (xs ps : List Int) : List Int := if mCode xs ps = 0 then mts xs ps else []
def dlVal (xs ps : List Int) : Int := if mCode xs ps = 0 then peakIx (mts xs ps) else 0
theorem mts_len {xs ps : List Int} : (mts xs ps).length = xs.length - ps.length + 1 := mtsTo_len _ _ _
theorem msVal_len {xs ps : List Int} {n : Nat} (hn : xs.length = n) (h : n ≤ 1048576) : (msVal xs ps).length ≤ 1048576 := by
  unfold msVal; split
  · have := mCode_zero (by assumption); rw [mts_len]; omega
  · simp
set_option maxHeartbeats 2000000 in
theorem iCode_any (A : Option Addr) (n c : Nat) (xs : List Int) (B : Option Addr) (p d : Nat) (ps : List Int) (w : World) (hn : xs.length = n) (hnc : n ≤ c) (hm : n ≤ 1048576) (hr : Rd w A xs) (hp : ps.length = p) (hpd : p ≤ d) (hm2 : p ≤ 1048576) (hr2 : Rd w B ps) :
    Calls Try.prog 102 #[.slice A n c, .slice B p d] w fun en w9 => en = .returned (.int .i64 (mCode xs ps)) ∧ w = w9 := by
  rcases Bool.eq_false_or_eq_true (isSig xs) with g1 | g1
  · rcases Bool.eq_false_or_eq_true (isSig ps) with g2 | g2
    · by_cases h0 : p = 0
      · subst h0
        have e1 : inR 0 1 (n : Int) = false := inR_not.2 (by omega)
        have e3 : (0 : Nat) = 0 ∨ n < 0 := by omega
        have HV : Hid (mCode xs ps = 5) := (by show _ = _; simp [mCode, hn, hp, g1, g2])
        go_enter Try.func102, Try.ntmps102
        go_wp2_with (first | (go_at_call 58; refine (iSig_any _ _ _ _ _ (by assumption) (by assumption) (by omega) (by first | assumption | exact Rd.drewN (by assumption) _ | exact Rd.drewN (Rd.drewN (by assumption) _) _)).mono ?_; rintro en w1 ⟨rfl, rfl⟩) | (go_at_call 79; refine (within_any _ _ _ _).mono ?_; rintro en w1 ⟨rfl, rfl⟩) | (go_at_call 83; refine (len_any _ _ _ _).mono ?_; rintro en w1 ⟨rfl, rfl⟩))
        go_ret
        exact ⟨by rw [HV.out]; rfl, rfl⟩
      · by_cases h3 : n < p
        · have e1 : inR (p : Int) 1 n = false := inR_not.2 (by omega)
          have e2 : ((p : Int) == 0) = false := by simp; omega
          have e3 : p = 0 ∨ n < p := by omega
          have e4 : (n : Int) < p := by omega
          have HV : Hid (mCode xs ps = 5) := (by show _ = _; simp [mCode, hn, hp, g1, g2, e3])
          go_enter Try.func102, Try.ntmps102
          go_wp2_with (first | (go_at_call 58; refine (iSig_any _ _ _ _ _ (by assumption) (by assumption) (by omega) (by first | assumption | exact Rd.drewN (by assumption) _ | exact Rd.drewN (Rd.drewN (by assumption) _) _)).mono ?_; rintro en w1 ⟨rfl, rfl⟩) | (go_at_call 79; refine (within_any _ _ _ _).mono ?_; rintro en w1 ⟨rfl, rfl⟩) | (go_at_call 83; refine (len_any _ _ _ _).mono ?_; rintro en w1 ⟨rfl, rfl⟩))
          go_ret
          exact ⟨by rw [HV.out]; rfl, rfl⟩
        · have e1 : inR (p : Int) 1 n = true := inR_iff.2 (by omega)
          have e2 : ((p : Int) == 0) = false := by simp; omega
          have e3 : ¬ (p = 0 ∨ n < p) := by omega
          have e4 : ¬ (n : Int) < p := by omega
          have HV : Hid (mCode xs ps = 0) := (by show _ = _; simp [mCode, hn, hp, g1, g2, e3])
          go_enter Try.func102, Try.ntmps102
          go_wp2_with (first | (go_at_call 58; refine (iSig_any _ _ _ _ _ (by assumption) (by assumption) (by omega) (by first | assumption | exact Rd.drewN (by assumption) _ | exact Rd.drewN (Rd.drewN (by assumption) _) _)).mono ?_; rintro en w1 ⟨rfl, rfl⟩) | (go_at_call 79; refine (within_any _ _ _ _).mono ?_; rintro en w1 ⟨rfl, rfl⟩) | (go_at_call 83; refine (len_any _ _ _ _).mono ?_; rintro en w1 ⟨rfl, rfl⟩))
          go_ret
          exact ⟨by rw [HV.out]; rfl, rfl⟩
    · skip
      have HV : Hid (mCode xs ps = 1) := (by show _ = _; simp [mCode, hn, hp, g1, g2])
      go_enter Try.func102, Try.ntmps102
      go_wp2_with (first | (go_at_call 58; refine (iSig_any _ _ _ _ _ (by assumption) (by assumption) (by omega) (by first | assumption | exact Rd.drewN (by assumption) _ | exact Rd.drewN (Rd.drewN (by assumption) _) _)).mono ?_; rintro en w1 ⟨rfl, rfl⟩) | (go_at_call 79; refine (within_any _ _ _ _).mono ?_; rintro en w1 ⟨rfl, rfl⟩) | (go_at_call 83; refine (len_any _ _ _ _).mono ?_; rintro en w1 ⟨rfl, rfl⟩))
      go_ret
      exact ⟨by rw [HV.out]; rfl, rfl⟩
  · rcases Bool.eq_false_or_eq_true (isSig ps) with g2 | g2
    all_goals (skip; have HV : Hid (mCode xs ps = 1) := (by show _ = _; simp [mCode, hn, hp, g1, g2]); go_enter Try.func102, Try.ntmps102; go_wp2_with (first | (go_at_call 58; refine (iSig_any _ _ _ _ _ (by assumption) (by assumption) (by omega) (by first | assumption | exact Rd.drewN (by assumption) _ | exact Rd.drewN (Rd.drewN (by assumption) _) _)).mono ?_; rintro en w1 ⟨rfl, rfl⟩) | (go_at_call 79; refine (within_any _ _ _ _).mono ?_; rintro en w1 ⟨rfl, rfl⟩) | (go_at_call 83; refine (len_any _ _ _ _).mono ?_; rintro en w1 ⟨rfl, rfl⟩)); go_ret; exact ⟨by rw [HV.out]; rfl, rfl⟩)
set_option maxHeartbeats 2000000 in
theorem sCode_any (A : Option Addr) (n c : Nat) (xs : List Int) (B : Option Addr) (p d : Nat) (ps : List Int) (w : World) (hn : xs.length = n) (hnc : n ≤ c) (hm : n ≤ 1048576) (hr : Rd w A xs) (hp : ps.length = p) (hpd : p ≤ d) (hm2 : p ≤ 1048576) (hr2 : Rd w B ps) :
    Calls Try.prog 100 #[.slice A n c, .slice B p d] w fun en w9 => en = .returned (.int .i64 (mCode xs ps)) ∧ w = w9 := by
  rcases Bool.eq_false_or_eq_true (isSig xs) with g1 | g1
  · rcases Bool.eq_false_or_eq_true (isSig ps) with g2 | g2
    · by_cases h0 : p = 0
      · subst h0
        have e1 : inR 0 1 (n : Int) = false := inR_not.2 (by omega)
        have e3 : (0 : Nat) = 0 ∨ n < 0 := by omega
        have HV : Hid (mCode xs ps = 5) := (by show _ = _; simp [mCode, hn, hp, g1, g2])
        go_enter Try.func100, Try.ntmps100
        go_wp2_with (first | (go_at_call 85; refine (sSig_any _ _ _ _ _ (by assumption) (by assumption) (by omega) (by first | assumption | exact Rd.drewN (by assumption) _ | exact Rd.drewN (Rd.drewN (by assumption) _) _)).mono ?_; rintro en w1 ⟨rfl, rfl⟩))
        go_ret
        exact ⟨by rw [HV.out]; rfl, rfl⟩
      · by_cases h3 : n < p
        · have e1 : inR (p : Int) 1 n = false := inR_not.2 (by omega)
          have e2 : ((p : Int) == 0) = false := by simp; omega
          have e3 : p = 0 ∨ n < p := by omega
          have e4 : (n : Int) < p := by omega
          have HV : Hid (mCode xs ps = 5) := (by show _ = _; simp [mCode, hn, hp, g1, g2, e3])
          go_enter Try.func100, Try.ntmps100
          go_wp2_with (first | (go_at_call 85; refine (sSig_any _ _ _ _ _ (by assumption) (by assumption) (by omega) (by first | assumption | exact Rd.drewN (by assumption) _ | exact Rd.drewN (Rd.drewN (by assumption) _) _)).mono ?_; rintro en w1 ⟨rfl, rfl⟩))
          go_ret
          exact ⟨by rw [HV.out]; rfl, rfl⟩
        · have e1 : inR (p : Int) 1 n = true := inR_iff.2 (by omega)
          have e2 : ((p : Int) == 0) = false := by simp; omega
          have e3 : ¬ (p = 0 ∨ n < p) := by omega
          have e4 : ¬ (n : Int) < p := by omega
          have HV : Hid (mCode xs ps = 0) := (by show _ = _; simp [mCode, hn, hp, g1, g2, e3])
          go_enter Try.func100, Try.ntmps100
          go_wp2_with (first | (go_at_call 85; refine (sSig_any _ _ _ _ _ (by assumption) (by assumption) (by omega) (by first | assumption | exact Rd.drewN (by assumption) _ | exact Rd.drewN (Rd.drewN (by assumption) _) _)).mono ?_; rintro en w1 ⟨rfl, rfl⟩))
          go_ret
          exact ⟨by rw [HV.out]; rfl, rfl⟩
    · skip
      have HV : Hid (mCode xs ps = 1) := (by show _ = _; simp [mCode, hn, hp, g1, g2])
      go_enter Try.func100, Try.ntmps100
      go_wp2_with (first | (go_at_call 85; refine (sSig_any _ _ _ _ _ (by assumption) (by assumption) (by omega) (by first | assumption | exact Rd.drewN (by assumption) _ | exact Rd.drewN (Rd.drewN (by assumption) _) _)).mono ?_; rintro en w1 ⟨rfl, rfl⟩))
      go_ret
      exact ⟨by rw [HV.out]; rfl, rfl⟩
  · rcases Bool.eq_false_or_eq_true (isSig ps) with g2 | g2
    all_goals (skip; have HV : Hid (mCode xs ps = 1) := (by show _ = _; simp [mCode, hn, hp, g1, g2]); go_enter Try.func100, Try.ntmps100; go_wp2_with (first | (go_at_call 85; refine (sSig_any _ _ _ _ _ (by assumption) (by assumption) (by omega) (by first | assumption | exact Rd.drewN (by assumption) _ | exact Rd.drewN (Rd.drewN (by assumption) _) _)).mono ?_; rintro en w1 ⟨rfl, rfl⟩)); go_ret; exact ⟨by rw [HV.out]; rfl, rfl⟩)

set_option maxHeartbeats 2000000 in
theorem iMs_any (A : Option Addr) (n c : Nat) (xs : List Int) (B : Option Addr) (p d : Nat) (ps : List Int) (w : World) (hn : xs.length = n) (hnc : n ≤ c) (hm : n ≤ 1048576) (hr : Rd w A xs) (hp : ps.length = p) (hpd : p ≤ d) (hm2 : p ≤ 1048576) (hr2 : Rd w B ps) :
    Calls Try.prog 44 #[.slice A n c, .slice B p d] w fun en w9 => ∃ A9 c9, en = .returned (.tuple #[.slice A9 (msVal xs ps).length c9, .int .i64 (mCode xs ps)]) ∧ OwnR w9 w.heap.size A9 (msVal xs ps).length c9 (msVal xs ps) ∧ Below w.heap.size w w9 := by
  by_cases h : mCode xs ps = 0
  · obtain ⟨g1, g2, l1, l2⟩ := mCode_zero h
    have s1 := isSig_iff.1 g1
    have s2 := isSig_iff.1 g2
    have HB := Lib.hid s1.2
    have HB2 := Lib.hid s2.2
    have hl := s1.1
    clear s1 s2
    have HV : Hid (msVal xs ps = mts xs ps) := by show _ = _; simp [msVal, h]
    have hne : (mCode xs ps != 0) = false := by simp [h]
    go_enter Try.func44, Try.ntmps44
    go_wp2_with (first | (go_at_call 102; refine (iCode_any _ _ _ _ _ _ _ _ _ (by assumption) (by assumption) (by omega) (by first | assumption | exact Rd.drewN (by assumption) _ | exact Rd.drewN (Rd.drewN (by assumption) _) _) (by assumption) (by assumption) (by omega) (by first | assumption | exact Rd.drewN (by assumption) _ | exact Rd.drewN (Rd.drewN (by assumption) _) _)).mono ?_; rintro en w1 ⟨rfl, rfl⟩))
    refine (iMatch_any A n c xs B p d ps _ hn hp (by omega) (by omega) (by omega) HB HB2 (by assumption) (by assumption)).mono ?_
    rintro en w1 ⟨A9, c9, rfl, hR, hbel⟩
    go_wp2
    go_ret2
    exact ⟨A9, c9, by rw [HV.out, h]; rfl, by rw [HV.out]; exact hR, hbel⟩
  · have hne : (mCode xs ps != 0) = true := by simp [h]
    have HV : Hid (msVal xs ps = []) := by show _ = _; simp [msVal, h]
    go_enter Try.func44, Try.ntmps44
    go_wp2_with (first | (go_at_call 102; refine (iCode_any _ _ _ _ _ _ _ _ _ (by assumption) (by assumption) (by omega) (by first | assumption | exact Rd.drewN (by assumption) _ | exact Rd.drewN (Rd.drewN (by assumption) _) _) (by assumption) (by assumption) (by omega) (by first | assumption | exact Rd.drewN (by assumption) _ | exact Rd.drewN (Rd.drewN (by assumption) _) _)).mono ?_; rintro en w1 ⟨rfl, rfl⟩))
    go_ret2
    exact ⟨none, 0, by rw [HV.out]; rfl, by rw [HV.out]; exact ⟨rfl, Nat.le_refl _, .inl ⟨rfl, rfl⟩⟩, by go_grown⟩

set_option maxHeartbeats 2000000 in
theorem sMs_any (A : Option Addr) (n c : Nat) (xs : List Int) (B : Option Addr) (p d : Nat) (ps : List Int) (w : World) (hn : xs.length = n) (hnc : n ≤ c) (hm : n ≤ 1048576) (hr : Rd w A xs) (hp : ps.length = p) (hpd : p ≤ d) (hm2 : p ≤ 1048576) (hr2 : Rd w B ps) :
    Calls Try.prog 43 #[.slice A n c, .slice B p d] w fun en w9 => ∃ A9 c9, en = .returned (.tuple #[.slice A9 (msVal xs ps).length c9, .int .i64 (mCode xs ps)]) ∧ OwnR w9 w.heap.size A9 (msVal xs ps).length c9 (msVal xs ps) ∧ Below w.heap.size w w9 := by
  by_cases h : mCode xs ps = 0
  · obtain ⟨g1, g2, l1, l2⟩ := mCode_zero h
    have s1 := isSig_iff.1 g1
    have s2 := isSig_iff.1 g2
    have HB := Lib.hid s1.2
    have HB2 := Lib.hid s2.2
    have hl := s1.1
    clear s1 s2
    have HV : Hid (msVal xs ps = mts xs ps) := by show _ = _; simp [msVal, h]
    have hne : (mCode xs ps != 0) = false := by simp [h]
    go_enter Try.func43, Try.ntmps43
    go_wp2_with (first | (go_at_call 100; refine (sCode_any _ _ _ _ _ _ _ _ _ (by assumption) (by assumption) (by omega) (by first | assumption | exact Rd.drewN (by assumption) _ | exact Rd.drewN (Rd.drewN (by assumption) _) _) (by assumption) (by assumption) (by omega) (by first | assumption | exact Rd.drewN (by assumption) _ | exact Rd.drewN (Rd.drewN (by assumption) _) _)).mono ?_; rintro en w1 ⟨rfl, rfl⟩))
    refine (sMatch_any A n c xs B p d ps _ hn hp (by omega) (by omega) (by omega) HB HB2 (by assumption) (by assumption)).mono ?_
    rintro en w1 ⟨A9, c9, rfl, hR, hbel⟩
    go_wp2
    go_ret2
    exact ⟨A9, c9, by rw [HV.out, h]; rfl, by rw [HV.out]; exact hR, hbel⟩
  · have hne : (mCode xs ps != 0) = true := by simp [h]
    have HV : Hid (msVal xs ps = []) := by show _ = _; simp [msVal, h]
    go_enter Try.func43, Try.ntmps43
    go_wp2_with (first | (go_at_call 100; refine (sCode_any _ _ _ _ _ _ _ _ _ (by assumption) (by assumption) (by omega) (by first | assumption | exact Rd.drewN (by assumption) _ | exact Rd.drewN (Rd.drewN (by assumption) _) _) (by assumption) (by assumption) (by omega) (by first | assumption | exact Rd.drewN (by assumption) _ | exact Rd.drewN (Rd.drewN (by assumption) _) _)).mono ?_; rintro en w1 ⟨rfl, rfl⟩))
    go_ret2
    exact ⟨none, 0, by rw [HV.out]; rfl, by rw [HV.out]; exact ⟨rfl, Nat.le_refl _, .inl ⟨rfl, rfl⟩⟩, by go_grown⟩

set_option maxHeartbeats 2000000 in
theorem iDl_any (A : Option Addr) (n c : Nat) (xs : List Int) (B : Option Addr) (p d : Nat) (ps : List Int) (w : World) (hn : xs.length = n) (hnc : n ≤ c) (hm : n ≤ 1048576) (hr : Rd w A xs) (hp : ps.length = p) (hpd : p ≤ d) (hm2 : p ≤ 1048576) (hr2 : Rd w B ps) :
    Calls Try.prog 46 #[.slice A n c, .slice B p d] w fun en w9 => en = .returned (.tuple #[.int .i64 (dlVal xs ps), .int .i64 (mCode xs ps)]) ∧ Below w.heap.size w w9 := by
  by_cases h : mCode xs ps = 0
  · obtain ⟨g1, g2, l1, l2⟩ := mCode_zero h
    have s1 := isSig_iff.1 g1
    have s2 := isSig_iff.1 g2
    have HB := Lib.hid s1.2
    have HB2 := Lib.hid s2.2
    have hl := s1.1
    have HBV : Hid (Val (mts xs ps)) := mts_val s1.2 s2.2 s2.1
    clear s1 s2
    have HV : Hid (dlVal xs ps = peakIx (mts xs ps)) := by show _ = _; simp [dlVal, h]
    have hne : (mCode xs ps != 0) = false := by simp [h]
    go_enter Try.func46, Try.ntmps46
    go_wp2_with (first | (go_at_call 102; refine (iCode_any _ _ _ _ _ _ _ _ _ (by assumption) (by assumption) (by omega) (by first | assumption | exact Rd.drewN (by assumption) _ | exact Rd.drewN (Rd.drewN (by assumption) _) _) (by assumption) (by assumption) (by omega) (by first | assumption | exact Rd.drewN (by assumption) _ | exact Rd.drewN (Rd.drewN (by assumption) _) _)).mono ?_; rintro en w1 ⟨rfl, rfl⟩))
    refine (iMatch_any A n c xs B p d ps _ hn hp (by omega) (by omega) (by omega) HB HB2 (by assumption) (by assumption)).mono ?_
    rintro en w1 ⟨A9, c9, rfl, hR, hbel⟩
    go_wp2_with fail
    refine (iPeak_any A9 (mts xs ps).length c9 (mts xs ps) _ rfl (by rw [mts_len]; omega) HBV (by rw [mts_len]; omega) hR.rd).mono ?_
    rintro en w2 ⟨rfl, mq, hq⟩
    have hbq := bquiet hq
    clear hq
    go_wp2
    go_ret2
    exact ⟨by rw [HV.out, h]; rfl, bseq hbel hbq⟩
  · have hne : (mCode xs ps != 0) = true := by simp [h]
    have HV : Hid (dlVal xs ps = 0) := by show _ = _; simp [dlVal, h]
    go_enter Try.func46, Try.ntmps46
    go_wp2_with (first | (go_at_call 102; refine (iCode_any _ _ _ _ _ _ _ _ _ (by assumption) (by assumption) (by omega) (by first | assumption | exact Rd.drewN (by assumption) _ | exact Rd.drewN (Rd.drewN (by assumption) _) _) (by assumption) (by assumption) (by omega) (by first | assumption | exact Rd.drewN (by assumption) _ | exact Rd.drewN (Rd.drewN (by assumption) _) _)).mono ?_; rintro en w1 ⟨rfl, rfl⟩))
    go_ret2
    exact ⟨by rw [HV.out]; rfl, by go_grown⟩

set_option maxHeartbeats 2000000 in
theorem sDl_any (A : Option Addr) (n c : Nat) (xs : List Int) (B : Option Addr) (p d : Nat) (ps : List Int) (w : World) (hn : xs.length = n) (hnc : n ≤ c) (hm : n ≤ 1048576) (hr : Rd w A xs) (hp : ps.length = p) (hpd : p ≤ d) (hm2 : p ≤ 1048576) (hr2 : Rd w B ps) :
    Calls Try.prog 45 #[.slice A n c, .slice B p d] w fun en w9 => en = .returned (.tuple #[.int .i64 (dlVal xs ps), .int .i64 (mCode xs ps)]) ∧ Below w.heap.size w w9 := by
  by_cases h : mCode xs ps = 0
  · obtain ⟨g1, g2, l1, l2⟩ := mCode_zero h
    have s1 := isSig_iff.1 g1
    have s2 := isSig_iff.1 g2
    have HB := Lib.hid s1.2
    have HB2 := Lib.hid s2.2
    have hl := s1.1
    have HBV : Hid (Val (mts xs ps)) := mts_val s1.2 s2.2 s2.1
    clear s1 s2
    have HV : Hid (dlVal xs ps = peakIx (mts xs ps)) := by show _ = _; simp [dlVal, h]
    have hne : (mCode xs ps != 0) = false := by simp [h]
    go_enter Try.func45, Try.ntmps45
    go_wp2_with (first | (go_at_call 100; refine (sCode_any _ _ _ _ _ _ _ _ _ (by assumption) (by assumption) (by omega) (by first | assumption | exact Rd.drewN (by assumption) _ | exact Rd.drewN (Rd.drewN (by assumption) _) _) (by assumption) (by assumption) (by omega) (by first | assumption | exact Rd.drewN (by assumption) _ | exact Rd.drewN (Rd.drewN (by assumption) _) _)).mono ?_; rintro en w1 ⟨rfl, rfl⟩))
    refine (sMatch_any A n c xs B p d ps _ hn hp (by omega) (by omega) (by omega) HB HB2 (by assumption) (by assumption)).mono ?_
    rintro en w1 ⟨A9, c9, rfl, hR, hbel⟩
    go_wp2_with fail
    refine (sPeak_any A9 (mts xs ps).length c9 (mts xs ps) _ rfl (by rw [mts_len]; omega) HBV (by rw [mts_len]; omega) hR.rd).mono ?_
    rintro en w2 ⟨rfl, mq, hq⟩
    have hbq := bquiet hq
    clear hq
    go_wp2
    go_ret2
    exact ⟨by rw [HV.out, h]; rfl, bseq hbel hbq⟩
  · have hne : (mCode xs ps != 0) = true := by simp [h]
    have HV : Hid (dlVal xs ps = 0) := by show _ = _; simp [dlVal, h]
    go_enter Try.func45, Try.ntmps45
    go_wp2_with (first | (go_at_call 100; refine (sCode_any _ _ _ _ _ _ _ _ _ (by assumption) (by assumption) (by omega) (by first | assumption | exact Rd.drewN (by assumption) _ | exact Rd.drewN (Rd.drewN (by assumption) _) _) (by assumption) (by assumption) (by omega) (by first | assumption | exact Rd.drewN (by assumption) _ | exact Rd.drewN (Rd.drewN (by assumption) _) _)).mono ?_; rintro en w1 ⟨rfl, rfl⟩))
    go_ret2
    exact ⟨by rw [HV.out]; rfl, by go_grown⟩
end Go.Proofs.Ytgfhmihnnjcagaa
