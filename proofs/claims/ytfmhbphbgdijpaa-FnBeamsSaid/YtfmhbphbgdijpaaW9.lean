/- walks: BeamOf, BeamPower -/
import Derived.Test.YtfmhbphbgdijpaaW7
import Derived.Test.YtfmhbphbgdijpaaW8
set_option linter.unusedVariables false
set_option linter.unusedSimpArgs false
namespace Go.Proofs.Ytfmhbphbgdijpaa
open Go.RowKit

set_option maxHeartbeats 1000000 in
theorem iCorr_any (A : Option Addr) (n c : Nat) (xs : List Int) (w : World) (hn : xs.length = n) (hm : n ≤ 400) (hb : Hid (Bd 12000 xs)) (hr : Rd w A xs) :
    Calls Try.prog 66 #[.slice A n c, .int .i64 0] w fun en w9 => en = .returned (.int .i64 (corr xs 0)) ∧ ∃ m, w9 = w.drewN m := by
  have HF : Hid (corr xs 0 = corrTo xs 0 n) := by show _ = _; rw [← hn]; rfl
  rcases hr with rfl | ⟨b, off, rfl, hc⟩
  · obtain rfl : n = 0 := by simpa using hn.symm
    have HZ : Hid (corr [] 0 = 0) := rfl
    go_enter Try.func66, Try.ntmps66
    go_wp2
    refine wp_loop_rounds 1 ?_
    rw [rounds_succ]
    go_wp2
    go_ret
    exact ⟨by rw [HZ.out]; rfl, 0, rfl⟩
  · have HC := Lib.hid hc; clear hc
    have HN := Lib.hid hn; clear hn
    go_enter Try.func66, Try.ntmps66
    go_wp2
    go_loopw [5, 6] (fun s i wr => ∃ j m : Nat, j ≤ n ∧ i = .int .i64 (j : Int) ∧ s = .int .i64 (corrTo xs 0 j) ∧ wr = w.drewN m) (fun _ i _ => n - (intOf i).toNat)
    case atStart => exact ⟨0, 0, Nat.zero_le _, rfl, rfl, rfl⟩
    case round =>
      obtain ⟨j, m, hj, rfl, rfl, rfl⟩ := hrel
      have hbd := corrTo_bd hb.out 0 j
      by_cases hlt : j < n
      · have hck := HC.out j (by rw [HN.out]; omega)
        have hxb := hb.out j
        have HT : Hid (corrTo xs 0 (j + 1) = corrTo xs 0 j + xs.getD j 0 * xs.getD j 0) := rfl
        obtain ⟨x, hx⟩ : ∃ x, x = xs.getD j 0 := ⟨_, rfl⟩
        rw [← hx] at hck hxb
        have HX := Lib.hid hx; clear hx
        have hxy := bd_mul hxb hxb
        have hi0 : (j : Int) < n := by omega
        go_wp2
        go_quiet (fail)
        go_wp2
        go_roundw
        case rel => exact ⟨j + 1, m + nq, by omega, by go_num, by rw [HT.out, ← HX.out], rfl⟩
        case measure => simp [intOf]; omega
      · obtain rfl : j = n := by omega
        go_wp2
        go_ret
        exact ⟨by rw [HF.out]; rfl, m, rfl⟩

set_option maxHeartbeats 1000000 in
theorem sPow_any (A : Option Addr) (n c : Nat) (xs : List Int) (w : World) (hn : xs.length = n) (hm : n ≤ 400) (hb : Hid (Bd 12000 xs)) (hr : Rd w A xs) :
    Calls Try.prog 67 #[.slice A n c] w fun en w9 => en = .returned (.int .i64 (corr xs 0)) ∧ ∃ m, w9 = w.drewN m := by
  have HF : Hid (corr xs 0 = corrTo xs 0 n) := by show _ = _; rw [← hn]; rfl
  rcases hr with rfl | ⟨b, off, rfl, hc⟩
  · obtain rfl : n = 0 := by simpa using hn.symm
    have HZ : Hid (corr [] 0 = 0) := rfl
    go_enter Try.func67, Try.ntmps67
    go_wp2
    refine wp_loop_rounds 1 ?_
    rw [rounds_succ]
    go_wp2
    go_ret
    exact ⟨by rw [HZ.out]; rfl, 0, rfl⟩
  · have HC := Lib.hid hc; clear hc
    have HN := Lib.hid hn; clear hn
    go_enter Try.func67, Try.ntmps67
    go_wp2
    go_loopw [3, 4] (fun s i wr => ∃ j m : Nat, j ≤ n ∧ i = .int .i64 (j : Int) ∧ s = .int .i64 (corrTo xs 0 j) ∧ wr = w.drewN m) (fun _ i _ => n - (intOf i).toNat)
    case atStart => exact ⟨0, 0, Nat.zero_le _, rfl, rfl, rfl⟩
    case round =>
      obtain ⟨j, m, hj, rfl, rfl, rfl⟩ := hrel
      have hbd := corrTo_bd hb.out 0 j
      by_cases hlt : j < n
      · have hck := HC.out j (by rw [HN.out]; omega)
        have hxb := hb.out j
        have HT : Hid (corrTo xs 0 (j + 1) = corrTo xs 0 j + xs.getD j 0 * xs.getD j 0) := rfl
        obtain ⟨x, hx⟩ : ∃ x, x = xs.getD j 0 := ⟨_, rfl⟩
        rw [← hx] at hck hxb
        have HX := Lib.hid hx; clear hx
        have hxy := bd_mul hxb hxb
        have hi0 : (j : Int) < n := by omega
        go_wp2
        go_quiet (fail)
        go_wp2
        go_roundw
        case rel => exact ⟨j + 1, m + nq, by omega, by go_num, by rw [HT.out, ← HX.out], rfl⟩
        case measure => simp [intOf]; omega
      · obtain rfl : j = n := by omega
        go_wp2
        go_ret
        exact ⟨by rw [HF.out]; rfl, m, rfl⟩

set_option maxHeartbeats 2000000 in
theorem iBc_any (A : Option Addr) (n c : Nat) (rows : List (List Int)) (B : Option Addr) (p d : Nat) (ds : List Int) (w : World) (hn : rows.length = n) (hm : n ≤ 1048576) (hrow : ∀ k, k < n → (rows.getD k []).length ≤ 1048576) (hr : RdM w A rows) (hp : ds.length = p) (hpd : p ≤ d) (hm2 : p ≤ 1048576) (hr2 : Rd w B ds) :
    Calls Try.prog 62 #[.slice A n c, .slice B p d] w fun en w9 => en = .returned (.int .i64 (bmCode rows ds)) ∧ ∃ m, w9 = w.drewN m := by
  rcases Bool.eq_false_or_eq_true (isChans rows) with g1 | g1
  · have h12 : n ≤ 12 := by have := (isChans_iff.1 g1).2.2.1; omega
    by_cases h0 : p = n
    · have b0 : ((p : Int) != n) = false := by simp; omega
      have b1 : decide ((p : Int) ≤ 12) = true := decide_eq_true (by omega)
      rcases Bool.eq_false_or_eq_true (allIn (-1000000) 1000000 ds) with g2 | g2
      · skip
        have HV : Hid (bmCode rows ds = 0) := (by show _ = _; simp [bmCode, hn, hp, g1, g2, h0])
        (try clear h0)
        go_enter Try.func62, Try.ntmps62
        go_wp2_with (first | (go_at_call 28; refine (iCh_any _ _ _ _ _ (by assumption) (by omega) (by assumption) (by first | assumption | exact RdM.drewN (by assumption) _)).mono ?_; rintro en w1 ⟨rfl, mq, rfl⟩) | (go_at_call 56; refine (areWithin_any _ _ _ _ _ _ _ (by assumption) (by omega) (by first | assumption | exact Rd.drewN (by assumption) _ | exact Rd.drewN (Rd.drewN (by assumption) _) _)).mono ?_; rintro en w1 ⟨rfl, rfl⟩))
        go_ret
        exact ⟨by rw [HV.out]; rfl, by first | exact ⟨0, rfl⟩ | exact ⟨_, rfl⟩⟩
      · skip
        have HV : Hid (bmCode rows ds = 2) := (by show _ = _; simp [bmCode, hn, hp, g1, g2, h0])
        (try clear h0)
        go_enter Try.func62, Try.ntmps62
        go_wp2_with (first | (go_at_call 28; refine (iCh_any _ _ _ _ _ (by assumption) (by omega) (by assumption) (by first | assumption | exact RdM.drewN (by assumption) _)).mono ?_; rintro en w1 ⟨rfl, mq, rfl⟩) | (go_at_call 56; refine (areWithin_any _ _ _ _ _ _ _ (by assumption) (by omega) (by first | assumption | exact Rd.drewN (by assumption) _ | exact Rd.drewN (Rd.drewN (by assumption) _) _)).mono ?_; rintro en w1 ⟨rfl, rfl⟩))
        go_ret
        exact ⟨by rw [HV.out]; rfl, by first | exact ⟨0, rfl⟩ | exact ⟨_, rfl⟩⟩
    · have b0 : ((p : Int) != n) = true := by simp; omega
      skip
      have HV : Hid (bmCode rows ds = 2) := (by show _ = _; simp [bmCode, hn, hp, g1, h0])
      (try clear h0)
      go_enter Try.func62, Try.ntmps62
      go_wp2_with (first | (go_at_call 28; refine (iCh_any _ _ _ _ _ (by assumption) (by omega) (by assumption) (by first | assumption | exact RdM.drewN (by assumption) _)).mono ?_; rintro en w1 ⟨rfl, mq, rfl⟩) | (go_at_call 56; refine (areWithin_any _ _ _ _ _ _ _ (by assumption) (by omega) (by first | assumption | exact Rd.drewN (by assumption) _ | exact Rd.drewN (Rd.drewN (by assumption) _) _)).mono ?_; rintro en w1 ⟨rfl, rfl⟩))
      go_ret
      exact ⟨by rw [HV.out]; rfl, by first | exact ⟨0, rfl⟩ | exact ⟨_, rfl⟩⟩
  · skip
    have HV : Hid (bmCode rows ds = 1) := (by show _ = _; simp [bmCode, hn, hp, g1])
    (try clear h0)
    go_enter Try.func62, Try.ntmps62
    go_wp2_with (first | (go_at_call 28; refine (iCh_any _ _ _ _ _ (by assumption) (by omega) (by assumption) (by first | assumption | exact RdM.drewN (by assumption) _)).mono ?_; rintro en w1 ⟨rfl, mq, rfl⟩) | (go_at_call 56; refine (areWithin_any _ _ _ _ _ _ _ (by assumption) (by omega) (by first | assumption | exact Rd.drewN (by assumption) _ | exact Rd.drewN (Rd.drewN (by assumption) _) _)).mono ?_; rintro en w1 ⟨rfl, rfl⟩))
    go_ret
    exact ⟨by rw [HV.out]; rfl, by first | exact ⟨0, rfl⟩ | exact ⟨_, rfl⟩⟩

set_option maxHeartbeats 2000000 in
theorem sBc_any (A : Option Addr) (n c : Nat) (rows : List (List Int)) (B : Option Addr) (p d : Nat) (ds : List Int) (w : World) (hn : rows.length = n) (hm : n ≤ 1048576) (hrow : ∀ k, k < n → (rows.getD k []).length ≤ 1048576) (hr : RdM w A rows) (hp : ds.length = p) (hpd : p ≤ d) (hm2 : p ≤ 1048576) (hr2 : Rd w B ds) :
    Calls Try.prog 64 #[.slice A n c, .slice B p d] w fun en w9 => en = .returned (.int .i64 (bmCode rows ds)) ∧ ∃ m, w9 = w.drewN m := by
  rcases Bool.eq_false_or_eq_true (isChans rows) with g1 | g1
  · have h12 : n ≤ 12 := by have := (isChans_iff.1 g1).2.2.1; omega
    by_cases h0 : p = n
    · have b0 : ((p : Int) != n) = false := by simp; omega
      have b1 : decide ((p : Int) ≤ 12) = true := decide_eq_true (by omega)
      rcases Bool.eq_false_or_eq_true (allIn (-1000000) 1000000 ds) with g2 | g2
      · skip
        have HV : Hid (bmCode rows ds = 0) := (by show _ = _; simp [bmCode, hn, hp, g1, g2, h0])
        (try clear h0)
        go_enter Try.func64, Try.ntmps64
        go_wp2_with (first | (go_at_call 29; refine (sCh_any _ _ _ _ _ (by assumption) (by omega) (by assumption) (by first | assumption | exact RdM.drewN (by assumption) _)).mono ?_; rintro en w1 ⟨rfl, mq, rfl⟩) | (go_at_call 53; refine (l01Within_any _ _ _ _ _ _ _ _ (by assumption) (by omega) (by first | assumption | exact Rd.drewN (by assumption) _ | exact Rd.drewN (Rd.drewN (by assumption) _) _)).mono ?_; rintro en w1 ⟨rfl, rfl⟩))
        go_ret
        exact ⟨by rw [HV.out]; rfl, by first | exact ⟨0, rfl⟩ | exact ⟨_, rfl⟩⟩
      · skip
        have HV : Hid (bmCode rows ds = 2) := (by show _ = _; simp [bmCode, hn, hp, g1, g2, h0])
        (try clear h0)
        go_enter Try.func64, Try.ntmps64
        go_wp2_with (first | (go_at_call 29; refine (sCh_any _ _ _ _ _ (by assumption) (by omega) (by assumption) (by first | assumption | exact RdM.drewN (by assumption) _)).mono ?_; rintro en w1 ⟨rfl, mq, rfl⟩) | (go_at_call 53; refine (l01Within_any _ _ _ _ _ _ _ _ (by assumption) (by omega) (by first | assumption | exact Rd.drewN (by assumption) _ | exact Rd.drewN (Rd.drewN (by assumption) _) _)).mono ?_; rintro en w1 ⟨rfl, rfl⟩))
        go_ret
        exact ⟨by rw [HV.out]; rfl, by first | exact ⟨0, rfl⟩ | exact ⟨_, rfl⟩⟩
    · have b0 : ((p : Int) != n) = true := by simp; omega
      skip
      have HV : Hid (bmCode rows ds = 2) := (by show _ = _; simp [bmCode, hn, hp, g1, h0])
      (try clear h0)
      go_enter Try.func64, Try.ntmps64
      go_wp2_with (first | (go_at_call 29; refine (sCh_any _ _ _ _ _ (by assumption) (by omega) (by assumption) (by first | assumption | exact RdM.drewN (by assumption) _)).mono ?_; rintro en w1 ⟨rfl, mq, rfl⟩) | (go_at_call 53; refine (l01Within_any _ _ _ _ _ _ _ _ (by assumption) (by omega) (by first | assumption | exact Rd.drewN (by assumption) _ | exact Rd.drewN (Rd.drewN (by assumption) _) _)).mono ?_; rintro en w1 ⟨rfl, rfl⟩))
      go_ret
      exact ⟨by rw [HV.out]; rfl, by first | exact ⟨0, rfl⟩ | exact ⟨_, rfl⟩⟩
  · skip
    have HV : Hid (bmCode rows ds = 1) := (by show _ = _; simp [bmCode, hn, hp, g1])
    (try clear h0)
    go_enter Try.func64, Try.ntmps64
    go_wp2_with (first | (go_at_call 29; refine (sCh_any _ _ _ _ _ (by assumption) (by omega) (by assumption) (by first | assumption | exact RdM.drewN (by assumption) _)).mono ?_; rintro en w1 ⟨rfl, mq, rfl⟩) | (go_at_call 53; refine (l01Within_any _ _ _ _ _ _ _ _ (by assumption) (by omega) (by first | assumption | exact Rd.drewN (by assumption) _ | exact Rd.drewN (Rd.drewN (by assumption) _) _)).mono ?_; rintro en w1 ⟨rfl, rfl⟩))
    go_ret
    exact ⟨by rw [HV.out]; rfl, by first | exact ⟨0, rfl⟩ | exact ⟨_, rfl⟩⟩

set_option maxHeartbeats 2000000 in
theorem iBeamOf_any (A : Option Addr) (n c : Nat) (rows : List (List Int)) (B : Option Addr) (p d : Nat) (ds : List Int) (w : World) (hn : rows.length = n) (hm : n ≤ 1048576) (hrow : ∀ k, k < n → (rows.getD k []).length ≤ 1048576) (hr : RdM w A rows) (hp : ds.length = p) (hpd : p ≤ d) (hm2 : p ≤ 1048576) (hr2 : Rd w B ds) :
    Calls Try.prog 20 #[.slice A n c, .slice B p d] w fun en w9 => ∃ A9 c9, en = .returned (.tuple #[.slice A9 (bmVal rows ds).length c9, .int .i64 (bmCode rows ds)]) ∧ OwnR w9 w.heap.size A9 (bmVal rows ds).length c9 (bmVal rows ds) ∧ Below w.heap.size w w9 := by
  by_cases h : bmCode rows ds = 0
  · obtain ⟨g1, g2, g3⟩ := bmCode_zero h
    have hch := isChans_iff.1 g1
    rw [hn] at hch g2
    have HCH := Lib.hid hch
    have HB3 := Lib.hid g3
    obtain rfl : p = n := by omega
    have HV : Hid (bmVal rows ds = bVal rows ds) := by show _ = _; simp [bmVal, h]
    have hne : (bmCode rows ds != 0) = false := by simp [h]
    have HL : Hid ((bVal rows ds).length = (rows.getD 0 []).length) := bVal_len rfl
    clear hch g1 g2 g3
    go_enter Try.func20, Try.ntmps20
    go_wp2_with (first | (go_at_call 62; refine (iBc_any _ _ _ _ _ _ _ _ _ (by assumption) (by omega) (by assumption) (by first | assumption | exact RdM.drewN (by assumption) _) (by assumption) (by assumption) (by omega) (by first | assumption | exact Rd.drewN (by assumption) _ | exact Rd.drewN (Rd.drewN (by assumption) _) _)).mono ?_; rintro en w1 ⟨rfl, mq, rfl⟩))
    refine (iBeam_any A p c rows B d ds (rows.getD 0 []).length _ hn HCH hp HB3 (by first | assumption | exact RdM.drewN (by assumption) _) (by first | assumption | exact Rd.drewN (by assumption) _)).mono ?_
    rintro en w1 ⟨A9, c9, rfl, hR, hbel⟩
    have hbel2 := Below.trans (below_drewN (Below.refl _ w) _) hbel
    go_wp2
    go_ret2
    exact ⟨A9, c9, by rw [HV.out, h, HL.out]; rfl, by rw [HV.out, HL.out]; exact hR, hbel2⟩
  · have hne : (bmCode rows ds != 0) = true := by simp [h]
    have HV : Hid (bmVal rows ds = []) := by show _ = _; simp [bmVal, h]
    go_enter Try.func20, Try.ntmps20
    go_wp2_with (first | (go_at_call 62; refine (iBc_any _ _ _ _ _ _ _ _ _ (by assumption) (by omega) (by assumption) (by first | assumption | exact RdM.drewN (by assumption) _) (by assumption) (by assumption) (by omega) (by first | assumption | exact Rd.drewN (by assumption) _ | exact Rd.drewN (Rd.drewN (by assumption) _) _)).mono ?_; rintro en w1 ⟨rfl, mq, rfl⟩))
    go_ret2
    exact ⟨none, 0, by rw [HV.out]; rfl, by rw [HV.out]; exact ⟨rfl, Nat.le_refl _, .inl ⟨rfl, rfl⟩⟩, by first | exact below_drewN (Below.refl _ _) _ | exact Below.refl _ _⟩

set_option maxHeartbeats 2000000 in
theorem sBeamOf_any (A : Option Addr) (n c : Nat) (rows : List (List Int)) (B : Option Addr) (p d : Nat) (ds : List Int) (w : World) (hn : rows.length = n) (hm : n ≤ 1048576) (hrow : ∀ k, k < n → (rows.getD k []).length ≤ 1048576) (hr : RdM w A rows) (hp : ds.length = p) (hpd : p ≤ d) (hm2 : p ≤ 1048576) (hr2 : Rd w B ds) :
    Calls Try.prog 21 #[.slice A n c, .slice B p d] w fun en w9 => ∃ A9 c9, en = .returned (.tuple #[.slice A9 (bmVal rows ds).length c9, .int .i64 (bmCode rows ds)]) ∧ OwnR w9 w.heap.size A9 (bmVal rows ds).length c9 (bmVal rows ds) ∧ Below w.heap.size w w9 := by
  by_cases h : bmCode rows ds = 0
  · obtain ⟨g1, g2, g3⟩ := bmCode_zero h
    have hch := isChans_iff.1 g1
    rw [hn] at hch g2
    have HCH := Lib.hid hch
    have HB3 := Lib.hid g3
    obtain rfl : p = n := by omega
    have HV : Hid (bmVal rows ds = bVal rows ds) := by show _ = _; simp [bmVal, h]
    have hne : (bmCode rows ds != 0) = false := by simp [h]
    have HL : Hid ((bVal rows ds).length = (rows.getD 0 []).length) := bVal_len rfl
    clear hch g1 g2 g3
    go_enter Try.func21, Try.ntmps21
    go_wp2_with (first | (go_at_call 64; refine (sBc_any _ _ _ _ _ _ _ _ _ (by assumption) (by omega) (by assumption) (by first | assumption | exact RdM.drewN (by assumption) _) (by assumption) (by assumption) (by omega) (by first | assumption | exact Rd.drewN (by assumption) _ | exact Rd.drewN (Rd.drewN (by assumption) _) _)).mono ?_; rintro en w1 ⟨rfl, mq, rfl⟩))
    refine (sBeam_any A p c rows B d ds (rows.getD 0 []).length _ hn HCH hp HB3 (by first | assumption | exact RdM.drewN (by assumption) _) (by first | assumption | exact Rd.drewN (by assumption) _)).mono ?_
    rintro en w1 ⟨A9, c9, rfl, hR, hbel⟩
    have hbel2 := Below.trans (below_drewN (Below.refl _ w) _) hbel
    go_wp2
    go_ret2
    exact ⟨A9, c9, by rw [HV.out, h, HL.out]; rfl, by rw [HV.out, HL.out]; exact hR, hbel2⟩
  · have hne : (bmCode rows ds != 0) = true := by simp [h]
    have HV : Hid (bmVal rows ds = []) := by show _ = _; simp [bmVal, h]
    go_enter Try.func21, Try.ntmps21
    go_wp2_with (first | (go_at_call 64; refine (sBc_any _ _ _ _ _ _ _ _ _ (by assumption) (by omega) (by assumption) (by first | assumption | exact RdM.drewN (by assumption) _) (by assumption) (by assumption) (by omega) (by first | assumption | exact Rd.drewN (by assumption) _ | exact Rd.drewN (Rd.drewN (by assumption) _) _)).mono ?_; rintro en w1 ⟨rfl, mq, rfl⟩))
    go_ret2
    exact ⟨none, 0, by rw [HV.out]; rfl, by rw [HV.out]; exact ⟨rfl, Nat.le_refl _, .inl ⟨rfl, rfl⟩⟩, by first | exact below_drewN (Below.refl _ _) _ | exact Below.refl _ _⟩

set_option maxHeartbeats 2000000 in
theorem iBp_any (A : Option Addr) (n c : Nat) (rows : List (List Int)) (B : Option Addr) (p d : Nat) (ds : List Int) (w : World) (hn : rows.length = n) (hm : n ≤ 1048576) (hrow : ∀ k, k < n → (rows.getD k []).length ≤ 1048576) (hr : RdM w A rows) (hp : ds.length = p) (hpd : p ≤ d) (hm2 : p ≤ 1048576) (hr2 : Rd w B ds) :
    Calls Try.prog 22 #[.slice A n c, .slice B p d] w fun en w9 => en = .returned (.tuple #[.int .i64 (bpVal rows ds), .int .i64 (bmCode rows ds)]) ∧ Below w.heap.size w w9 := by
  by_cases h : bmCode rows ds = 0
  · obtain ⟨g1, g2, g3⟩ := bmCode_zero h
    have hch := isChans_iff.1 g1
    rw [hn] at hch g2
    have HCH := Lib.hid hch
    have HB3 := Lib.hid g3
    obtain rfl : p = n := by omega
    have HV : Hid (bpVal rows ds = corr (bVal rows ds) 0) := by show _ = _; simp [bpVal, h]
    have hne : (bmCode rows ds != 0) = false := by simp [h]
    have HL : Hid ((bVal rows ds).length = (rows.getD 0 []).length) := bVal_len rfl
    have HBB : Hid (Bd 12000 (bVal rows ds)) := bVal_bd hch
    have hL4 := hch.2.2.2.1
    clear hch g1 g2 g3
    go_enter Try.func22, Try.ntmps22
    go_wp2_with (first | (go_at_call 62; refine (iBc_any _ _ _ _ _ _ _ _ _ (by assumption) (by omega) (by assumption) (by first | assumption | exact RdM.drewN (by assumption) _) (by assumption) (by assumption) (by omega) (by first | assumption | exact Rd.drewN (by assumption) _ | exact Rd.drewN (Rd.drewN (by assumption) _) _)).mono ?_; rintro en w1 ⟨rfl, mq, rfl⟩))
    refine (iBeam_any A p c rows B d ds (rows.getD 0 []).length _ hn HCH hp HB3 (by first | assumption | exact RdM.drewN (by assumption) _) (by first | assumption | exact Rd.drewN (by assumption) _)).mono ?_
    rintro en w1 ⟨A9, c9, rfl, hR, hbel⟩
    have hbel2 := Below.trans (below_drewN (Below.refl _ w) _) hbel
    go_wp2_with fail
    refine (iCorr_any A9 (rows.getD 0 []).length c9 (bVal rows ds) _ HL.out hL4 HBB hR.rd).mono ?_
    rintro en w2 ⟨rfl, mq, hq⟩
    have hb3 : Below w.heap.size w w2 := by rw [hq]; exact below_drewN hbel2 _
    clear hq
    go_wp2
    go_ret2
    exact ⟨by rw [HV.out, h]; rfl, hb3⟩
  · have hne : (bmCode rows ds != 0) = true := by simp [h]
    have HV : Hid (bpVal rows ds = 0) := by show _ = _; simp [bpVal, h]
    go_enter Try.func22, Try.ntmps22
    go_wp2_with (first | (go_at_call 62; refine (iBc_any _ _ _ _ _ _ _ _ _ (by assumption) (by omega) (by assumption) (by first | assumption | exact RdM.drewN (by assumption) _) (by assumption) (by assumption) (by omega) (by first | assumption | exact Rd.drewN (by assumption) _ | exact Rd.drewN (Rd.drewN (by assumption) _) _)).mono ?_; rintro en w1 ⟨rfl, mq, rfl⟩))
    go_ret2
    exact ⟨by rw [HV.out]; rfl, by first | exact below_drewN (Below.refl _ _) _ | exact Below.refl _ _⟩

set_option maxHeartbeats 2000000 in
theorem sBp_any (A : Option Addr) (n c : Nat) (rows : List (List Int)) (B : Option Addr) (p d : Nat) (ds : List Int) (w : World) (hn : rows.length = n) (hm : n ≤ 1048576) (hrow : ∀ k, k < n → (rows.getD k []).length ≤ 1048576) (hr : RdM w A rows) (hp : ds.length = p) (hpd : p ≤ d) (hm2 : p ≤ 1048576) (hr2 : Rd w B ds) :
    Calls Try.prog 23 #[.slice A n c, .slice B p d] w fun en w9 => en = .returned (.tuple #[.int .i64 (bpVal rows ds), .int .i64 (bmCode rows ds)]) ∧ Below w.heap.size w w9 := by
  by_cases h : bmCode rows ds = 0
  · obtain ⟨g1, g2, g3⟩ := bmCode_zero h
    have hch := isChans_iff.1 g1
    rw [hn] at hch g2
    have HCH := Lib.hid hch
    have HB3 := Lib.hid g3
    obtain rfl : p = n := by omega
    have HV : Hid (bpVal rows ds = corr (bVal rows ds) 0) := by show _ = _; simp [bpVal, h]
    have hne : (bmCode rows ds != 0) = false := by simp [h]
    have HL : Hid ((bVal rows ds).length = (rows.getD 0 []).length) := bVal_len rfl
    have HBB : Hid (Bd 12000 (bVal rows ds)) := bVal_bd hch
    have hL4 := hch.2.2.2.1
    clear hch g1 g2 g3
    go_enter Try.func23, Try.ntmps23
    go_wp2_with (first | (go_at_call 64; refine (sBc_any _ _ _ _ _ _ _ _ _ (by assumption) (by omega) (by assumption) (by first | assumption | exact RdM.drewN (by assumption) _) (by assumption) (by assumption) (by omega) (by first | assumption | exact Rd.drewN (by assumption) _ | exact Rd.drewN (Rd.drewN (by assumption) _) _)).mono ?_; rintro en w1 ⟨rfl, mq, rfl⟩))
    refine (sBeam_any A p c rows B d ds (rows.getD 0 []).length _ hn HCH hp HB3 (by first | assumption | exact RdM.drewN (by assumption) _) (by first | assumption | exact Rd.drewN (by assumption) _)).mono ?_
    rintro en w1 ⟨A9, c9, rfl, hR, hbel⟩
    have hbel2 := Below.trans (below_drewN (Below.refl _ w) _) hbel
    go_wp2_with fail
    refine (sPow_any A9 (rows.getD 0 []).length c9 (bVal rows ds) _ HL.out hL4 HBB hR.rd).mono ?_
    rintro en w2 ⟨rfl, mq, hq⟩
    have hb3 : Below w.heap.size w w2 := by rw [hq]; exact below_drewN hbel2 _
    clear hq
    go_wp2
    go_ret2
    exact ⟨by rw [HV.out, h]; rfl, hb3⟩
  · have hne : (bmCode rows ds != 0) = true := by simp [h]
    have HV : Hid (bpVal rows ds = 0) := by show _ = _; simp [bpVal, h]
    go_enter Try.func23, Try.ntmps23
    go_wp2_with (first | (go_at_call 64; refine (sBc_any _ _ _ _ _ _ _ _ _ (by assumption) (by omega) (by assumption) (by first | assumption | exact RdM.drewN (by assumption) _) (by assumption) (by assumption) (by omega) (by first | assumption | exact Rd.drewN (by assumption) _ | exact Rd.drewN (Rd.drewN (by assumption) _) _)).mono ?_; rintro en w1 ⟨rfl, mq, rfl⟩))
    go_ret2
    exact ⟨by rw [HV.out]; rfl, by first | exact below_drewN (Below.refl _ _) _ | exact Below.refl _ _⟩
end Go.Proofs.Ytfmhbphbgdijpaa
