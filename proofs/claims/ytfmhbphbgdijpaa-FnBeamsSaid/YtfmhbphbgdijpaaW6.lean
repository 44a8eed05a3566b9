/- walks: IsSignal, AreChannels -/
import Derived.Test.YtfmhbphbgdijpaaW5
set_option linter.unusedVariables false
set_option linter.unusedSimpArgs false
namespace Go.Proofs.Ytfmhbphbgdijpaa
open Go.RowKit

def isSig (xs : List Int) : Bool := decide (xs.length ≤ 400) && allIn (-1000) 1000 xs
def Sig (xs : List Int) : Prop := ∀ x ∈ xs, -1000 ≤ x ∧ x ≤ 1000
theorem isSig_iff {xs : List Int} : isSig xs = true ↔ xs.length ≤ 400 ∧ Sig xs := by
  simp only [isSig, Bool.and_eq_true, decide_eq_true_eq]
  exact and_congr Iff.rfl allIn_iff
theorem Sig.at {xs : List Int} (h : Sig xs) (i : Nat) : -1000 ≤ xs.getD i 0 ∧ xs.getD i 0 ≤ 1000 := by
  by_cases hi : i < xs.length
  · exact h _ (List.mem_of_getElem? (getD_at hi))
  · rw [List.getD_eq_getElem?_getD, List.getElem?_eq_none (by omega)]; decide
def rowOk (L : Nat) (x : List Int) : Bool := isSig x && decide (x.length = L)
def allOk (L : Nat) (rows : List (List Int)) : Nat → Bool
  | 0 => true
  | k + 1 => allOk L rows k && rowOk L (rows.getD k [])
theorem allOk_out {L : Nat} {rows : List (List Int)} {k n : Nat} (h : rowOk L (rows.getD k []) = false) (hk : k < n) : allOk L rows n = false := by
  induction n with
  | zero => omega
  | succ n ih =>
    by_cases e : k = n
    · subst e; simp only [allOk, h, Bool.and_false]
    · simp only [allOk, ih (by omega), Bool.false_and]
theorem allOk_at {L : Nat} {rows : List (List Int)} {n : Nat} (h : allOk L rows n = true) {k : Nat} (hk : k < n) : rowOk L (rows.getD k []) = true := by
  cases e : rowOk L (rows.getD k []) with
  | true => rfl
  | false => rw [allOk_out e hk] at h; cases h
def isChans (rows : List (List Int)) : Bool := decide (1 ≤ rows.length) && decide (rows.length ≤ 12) && allOk (rows.getD 0 []).length rows rows.length
/-- what valid channels are good for -/
def Chans (rows : List (List Int)) (n L : Nat) : Prop := rows.length = n ∧ 1 ≤ n ∧ n ≤ 12 ∧ L ≤ 400 ∧ ∀ k, k < n → (rows.getD k []).length = L ∧ Sig (rows.getD k [])
theorem isChans_iff {rows : List (List Int)} : isChans rows = true ↔ Chans rows rows.length (rows.getD 0 []).length := by
  simp only [isChans, Bool.and_eq_true, decide_eq_true_eq]
  constructor
  · rintro ⟨⟨h1, h2⟩, h3⟩
    have hk : ∀ k, k < rows.length → (rows.getD k []).length = (rows.getD 0 []).length ∧ isSig (rows.getD k []) = true := fun k hk => by
      have := allOk_at h3 hk
      simp only [rowOk, Bool.and_eq_true, decide_eq_true_eq] at this
      exact ⟨this.2, this.1⟩
    exact ⟨rfl, h1, h2, (isSig_iff.1 (hk 0 h1).2).1, fun k h => ⟨(hk k h).1, (isSig_iff.1 (hk k h).2).2⟩⟩
  · rintro ⟨_, h1, h2, h3, h4⟩
    refine ⟨⟨h1, h2⟩, ?_⟩
    cases e : allOk (rows.getD 0 []).length rows rows.length with
    | true => rfl
    | false =>
      exfalso
      have : ∀ n, n ≤ rows.length → allOk (rows.getD 0 []).length rows n = true := fun n => by
        induction n with
        | zero => intro _; rfl
        | succ n ih =>
          intro hn
          have h5 := h4 n (by omega)
          simp only [allOk, ih (by omega), rowOk, Bool.true_and, Bool.and_eq_true, decide_eq_true_eq]
          exact ⟨isSig_iff.2 ⟨by omega, h5.2⟩, h5.1⟩
      rw [this _ (Nat.le_refl _)] at e; cases e
theorem len2_any (A : Option Addr) (n c : Nat) (w : World) : Calls Try.prog 82 #[.slice A n c] w fun en w9 => en = .returned (.int .i64 n) ∧ w = w9 := by
  go_enter Try.func82, Try.ntmps82
  go_wp2
  go_ret
  exact ⟨rfl, rfl⟩

theorem iSig_any (A : Option Addr) (n c : Nat) (xs : List Int) (w : World) (hn : xs.length = n) (hnc : n ≤ c) (hm : n ≤ 1048576) (hr : Rd w A xs) :
    Calls Try.prog 81 #[.slice A n c] w fun en w9 => en = .returned (.bool (isSig xs)) ∧ w = w9 := by
  by_cases hl : n ≤ 400
  · have hd : decide ((n : Int) ≤ 400) = true := decide_eq_true (by omega)
    have HF : Hid (isSig xs = allIn (-1000) 1000 xs) := by show _ = _; unfold isSig; rw [decide_eq_true (by omega)]; rfl
    rcases Bool.eq_false_or_eq_true (allIn (-1000) 1000 xs) with ha | ha
    all_goals (go_enter Try.func81, Try.ntmps81; go_wp2_with (first | (go_at_call 56; refine (areWithin_any _ _ _ _ _ _ _ (by assumption) (by omega) (by assumption)).mono ?_; rintro en w1 ⟨rfl, rfl⟩)); go_ret; exact ⟨by rw [HF.out, ha]; rfl, rfl⟩)
  · have hd : decide ((n : Int) ≤ 400) = false := decide_eq_false (by omega)
    have HF : Hid (isSig xs = false) := by show _ = _; unfold isSig; rw [decide_eq_false (by omega)]; rfl
    rcases Bool.eq_false_or_eq_true (allIn (-1000) 1000 xs) with ha | ha
    all_goals (go_enter Try.func81, Try.ntmps81; go_wp2_with (first | (go_at_call 56; refine (areWithin_any _ _ _ _ _ _ _ (by assumption) (by omega) (by assumption)).mono ?_; rintro en w1 ⟨rfl, rfl⟩)); go_ret; exact ⟨by rw [HF.out]; rfl, rfl⟩)

theorem sSig_any (A : Option Addr) (n c : Nat) (xs : List Int) (w : World) (hn : xs.length = n) (hnc : n ≤ c) (hm : n ≤ 1048576) (hr : Rd w A xs) :
    Calls Try.prog 83 #[.slice A n c] w fun en w9 => en = .returned (.bool (isSig xs)) ∧ w = w9 := by
  by_cases hl : n ≤ 400
  · have hd : decide ((n : Int) ≤ 400) = true := decide_eq_true (by omega)
    have HF : Hid (isSig xs = allIn (-1000) 1000 xs) := by show _ = _; unfold isSig; rw [decide_eq_true (by omega)]; rfl
    rcases Bool.eq_false_or_eq_true (allIn (-1000) 1000 xs) with ha | ha
    all_goals (go_enter Try.func83, Try.ntmps83; go_wp2_with (first | (go_at_call 53; refine (l01Within_any _ _ _ _ _ _ _ _ (by assumption) (by omega) (by assumption)).mono ?_; rintro en w1 ⟨rfl, rfl⟩)); go_ret; exact ⟨by rw [HF.out, ha]; rfl, rfl⟩)
  · have hd : decide ((n : Int) ≤ 400) = false := decide_eq_false (by omega)
    have HF : Hid (isSig xs = false) := by show _ = _; unfold isSig; rw [decide_eq_false (by omega)]; rfl
    rcases Bool.eq_false_or_eq_true (allIn (-1000) 1000 xs) with ha | ha
    all_goals (go_enter Try.func83, Try.ntmps83; go_wp2_with (first | (go_at_call 53; refine (l01Within_any _ _ _ _ _ _ _ _ (by assumption) (by omega) (by assumption)).mono ?_; rintro en w1 ⟨rfl, rfl⟩)); go_ret; exact ⟨by rw [HF.out]; rfl, rfl⟩)

set_option maxHeartbeats 2000000 in
theorem iCh_any (A : Option Addr) (n c : Nat) (rows : List (List Int)) (w : World) (hn : rows.length = n) (hm : n ≤ 1048576) (hrow : ∀ k, k < n → (rows.getD k []).length ≤ 1048576) (hr : RdM w A rows) :
    Calls Try.prog 28 #[.slice A n c] w fun en w9 => en = .returned (.bool (isChans rows)) ∧ ∃ m, w9 = w.drewN m := by
  rcases hr with rfl | ⟨b, off, rfl, hc⟩
  · obtain rfl : n = 0 := by simpa using hn.symm
    have HV : Hid (isChans [] = false) := rfl
    have h1 : inR 0 1 12 = false := rfl
    go_enter Try.func28, Try.ntmps28
    go_wp2
    refine wp_loop_rounds 1 ?_
    rw [rounds_succ]
    go_wp2_with (first | (go_at_call 54; refine (within_any _ _ _ _).mono ?_; rintro en w1 ⟨rfl, rfl⟩) | (go_at_call 82; refine (len2_any _ _ _ _).mono ?_; rintro en w1 ⟨rfl, rfl⟩))
    go_ret
    exact ⟨by rw [HV.out]; rfl, 0, rfl⟩
  · have HC := Lib.hid hc; clear hc
    by_cases hn0 : n = 0
    · subst hn0
      obtain rfl : rows = [] := List.eq_nil_of_length_eq_zero hn
      have HV : Hid (isChans [] = false) := rfl
      have h1 : inR 0 1 12 = false := rfl
      go_enter Try.func28, Try.ntmps28
      go_wp2
      refine wp_loop_rounds 1 ?_
      rw [rounds_succ]
      go_wp2_with (first | (go_at_call 54; refine (within_any _ _ _ _).mono ?_; rintro en w1 ⟨rfl, rfl⟩) | (go_at_call 82; refine (len2_any _ _ _ _).mono ?_; rintro en w1 ⟨rfl, rfl⟩))
      go_ret
      exact ⟨by rw [HV.out]; rfl, 0, rfl⟩
    obtain ⟨B0, m0, c0, hck0, hml0, _, _, _⟩ := HC.out 0 (by omega)
    rw [Nat.add_zero] at hck0
    have HN := Lib.hid hn
    have HF : Hid (isChans rows = (decide (1 ≤ n) && decide (n ≤ 12) && allOk m0 rows n)) := by show _ = _; unfold isChans; rw [hn, hml0]
    have HRW := Lib.hid hrow
    clear hn hml0 hrow
    go_enter Try.func28, Try.ntmps28
    go_wp2
    go_loop [7] (fun i => ∃ k : Nat, k ≤ n ∧ i = .int .i64 (k : Int) ∧ Hid (allOk m0 rows k = true)) (fun i => n - (intOf i).toNat)
    case atStart => exact ⟨0, Nat.zero_le _, rfl, rfl⟩
    case round =>
      obtain ⟨k, hk, rfl, HK⟩ := hrel
      by_cases hlt : k < n
      · obtain ⟨B, m, c2, hck, hml, hmc, _, hrd⟩ := HC.out k (by rw [HN.out]; exact hlt)
        have hm2 := HRW.out k hlt
        rw [hml] at hm2
        have HOK : Hid (allOk m0 rows (k + 1) = rowOk m0 (rows.getD k [])) := by show _ = _; simp only [allOk, HK.out, Bool.true_and]
        have HNO : Hid (rowOk m0 (rows.getD k []) = false → isChans rows = false) := by
          show _ → _
          intro h; rw [HF.out, allOk_out h hlt, Bool.and_false]
        obtain ⟨r, hrr⟩ : ∃ r, r = rows.getD k [] := ⟨_, rfl⟩
        rw [← hrr] at hml hrd
        have HL := Lib.hid hml
        have HRD := Lib.hid hrd
        have HRR := Lib.hid hrr
        clear hml hrd hrr
        have hi0 : (k : Int) < n := by omega
        rcases Bool.eq_false_or_eq_true (isSig r) with hs | hs
        · by_cases hmm : m = m0
          · have hb : ((m : Int) != m0) = false := by simp; omega
            have hV : allOk m0 rows (k + 1) = true := by rw [HOK.out, ← HRR.out]; unfold rowOk; rw [hs, HL.out, decide_eq_true hmm]; rfl
            have HV := Lib.hid hV
            clear hmm hV
            go_wp2_with (first | (go_at_call 81; refine (iSig_any B m c2 r _ HL.out hmc hm2 HRD.out).mono ?_; rintro en wz ⟨rfl, rfl⟩))
            go_round
            case rel => exact ⟨k + 1, by omega, by go_num, HV⟩
            case measure => simp [intOf]; omega
          · have hb : ((m : Int) != m0) = true := by simp; omega
            have hV : isChans rows = false := HNO.out (by rw [← HRR.out]; unfold rowOk; rw [HL.out, decide_eq_false hmm, Bool.and_false])
            have HV := Lib.hid hV
            clear hV
            go_wp2_with (first | (go_at_call 81; refine (iSig_any B m c2 r _ HL.out hmc hm2 HRD.out).mono ?_; rintro en wz ⟨rfl, rfl⟩))
            go_ret
            exact ⟨by rw [HV.out]; rfl, 0, rfl⟩
        · have hV : isChans rows = false := HNO.out (by rw [← HRR.out]; unfold rowOk; rw [hs, Bool.false_and])
          have HV := Lib.hid hV
          clear hV
          go_wp2_with (first | (go_at_call 81; refine (iSig_any B m c2 r _ HL.out hmc hm2 HRD.out).mono ?_; rintro en wz ⟨rfl, rfl⟩))
          go_ret
          exact ⟨by rw [HV.out]; rfl, 0, rfl⟩
      · obtain rfl : k = n := by omega
        have HV : Hid (isChans rows = inR (k : Int) 1 12) := by
          show _ = _
          rw [HF.out, HK.out, Bool.and_true]
          unfold inR
          rw [show decide ((1 : Int) ≤ k) = decide (1 ≤ k) by simp; omega, show decide ((k : Int) ≤ 12) = decide (k ≤ 12) by simp; omega]
        go_wp2_with (first | (go_at_call 54; refine (within_any _ _ _ _).mono ?_; rintro en w1 ⟨rfl, rfl⟩) | (go_at_call 82; refine (len2_any _ _ _ _).mono ?_; rintro en w1 ⟨rfl, rfl⟩))
        go_ret
        exact ⟨by rw [HV.out]; rfl, 0, rfl⟩
set_option maxHeartbeats 2000000 in
theorem sCh_any (A : Option Addr) (n c : Nat) (rows : List (List Int)) (w : World) (hn : rows.length = n) (hm : n ≤ 1048576) (hrow : ∀ k, k < n → (rows.getD k []).length ≤ 1048576) (hr : RdM w A rows) :
    Calls Try.prog 29 #[.slice A n c] w fun en w9 => en = .returned (.bool (isChans rows)) ∧ ∃ m, w9 = w.drewN m := by
  by_cases h1 : 1 ≤ n
  rotate_left
  · have HV : Hid (isChans rows = false) := by show _ = _; unfold isChans; rw [hn, decide_eq_false h1]; rfl
    have hd : (n : Int) < 1 := by omega
    go_enter Try.func29, Try.ntmps29
    go_wp2
    go_ret
    exact ⟨by rw [HV.out]; rfl, 0, rfl⟩
  have hd1 : ¬ (n : Int) < 1 := by omega
  by_cases h2 : n ≤ 12
  rotate_left
  · have HV : Hid (isChans rows = false) := by show _ = _; unfold isChans; rw [hn, decide_eq_false h2, Bool.and_false]; rfl
    have hd : (12 : Int) < n := by omega
    go_enter Try.func29, Try.ntmps29
    go_wp2
    go_ret
    exact ⟨by rw [HV.out]; rfl, 0, rfl⟩
  have hd2 : ¬ (12 : Int) < n := by omega
  rcases hr with rfl | ⟨b, off, rfl, hc⟩
  · exfalso; simp at hn; omega
  have HC := Lib.hid hc; clear hc
  obtain ⟨B0, m0, c0, hck0, hml0, _, _, _⟩ := HC.out 0 (by omega)
  rw [Nat.add_zero] at hck0
  have HN := Lib.hid hn
  have HF : Hid (isChans rows = allOk m0 rows n) := by show _ = _; unfold isChans; rw [hn, hml0, decide_eq_true h1, decide_eq_true h2]; rfl
  have HRW := Lib.hid hrow
  have HC0 := Lib.hid hck0
  clear hn hml0 hrow hck0
  go_enter Try.func29, Try.ntmps29
  go_wp2
  go_loopw [3] (fun i wr => ∃ k q : Nat, k ≤ n ∧ i = .int .i64 (k : Int) ∧ Hid (allOk m0 rows k = true) ∧ wr = w.drewN q) (fun i _ => n - (intOf i).toNat)
  case atStart => exact ⟨0, 0, Nat.zero_le _, rfl, rfl, rfl⟩
  case round =>
    obtain ⟨k, q, hk, rfl, HK, hwr⟩ := hrel
    have HW := Lib.hid hwr; clear hwr
    by_cases hlt : k < n
    · obtain ⟨B, m, c2, hck1, hml, hmc, _, hrd⟩ := HC.out k (by rw [HN.out]; exact hlt)
      have hck : wr.cell? ⟨b, off + k, none⟩ = some (.slice B m c2) := by rw [HW.out]; exact hck1
      have hck0 : wr.cell? ⟨b, off, none⟩ = some (.slice B0 m0 c0) := by rw [HW.out]; exact HC0.out
      have hm2 := HRW.out k hlt
      rw [hml] at hm2
      have HOK : Hid (allOk m0 rows (k + 1) = rowOk m0 (rows.getD k [])) := by show _ = _; simp only [allOk, HK.out, Bool.true_and]
      have HNO : Hid (rowOk m0 (rows.getD k []) = false → isChans rows = false) := by
        show _ → _
        intro h; rw [HF.out, allOk_out h hlt]
      obtain ⟨r, hrr⟩ : ∃ r, r = rows.getD k [] := ⟨_, rfl⟩
      rw [← hrr] at hml hrd
      have HL := Lib.hid hml
      have HRD : Hid (Rd wr B r) := by show Rd _ _ _; rw [HW.out]; exact hrd.drewN _
      have HRR := Lib.hid hrr
      clear hml hrd hrr hck1
      have hi0 : (k : Int) < n := by omega
      have hi1 : (0 : Int) < n := by omega
      rcases Bool.eq_false_or_eq_true (isSig r) with hs | hs
      · by_cases hmm : m = m0
        · have hb : ((m : Int) != m0) = false := by simp; omega
          have hV : allOk m0 rows (k + 1) = true := by rw [HOK.out, ← HRR.out]; unfold rowOk; rw [hs, HL.out, decide_eq_true hmm]; rfl
          have HV := Lib.hid hV
          clear hmm hV
          go_wp2
          go_quiet (first | (go_at_call 83; exact Calls.quiet_of_same ((sSig_any B m c2 r _ HL.out hmc hm2 (HRD.out.drewN _)).mono fun _ _ h => ⟨h.1, h.2.symm⟩)))
          go_wp2
          go_roundw
          case rel => exact ⟨k + 1, q + nq, by omega, by go_num, HV, by rw [HW.out]; exact World.drewN_drewN _ _ _⟩
          case measure => simp [intOf]; omega
        · have hb : ((m : Int) != m0) = true := by simp; omega
          have hV : isChans rows = false := HNO.out (by rw [← HRR.out]; unfold rowOk; rw [HL.out, decide_eq_false hmm, Bool.and_false])
          have HV := Lib.hid hV
          clear hV
          go_wp2
          go_quiet (first | (go_at_call 83; exact Calls.quiet_of_same ((sSig_any B m c2 r _ HL.out hmc hm2 (HRD.out.drewN _)).mono fun _ _ h => ⟨h.1, h.2.symm⟩)))
          go_wp2
          go_ret
          exact ⟨by rw [HV.out]; rfl, q + nq, by rw [HW.out]; exact World.drewN_drewN _ _ _⟩
      · have hV : isChans rows = false := HNO.out (by rw [← HRR.out]; unfold rowOk; rw [hs, Bool.false_and])
        have HV := Lib.hid hV
        clear hV
        go_wp2
        go_quiet (first | (go_at_call 83; exact Calls.quiet_of_same ((sSig_any B m c2 r _ HL.out hmc hm2 (HRD.out.drewN _)).mono fun _ _ h => ⟨h.1, h.2.symm⟩)))
        go_wp2
        go_ret
        exact ⟨by rw [HV.out]; rfl, q + nq, by rw [HW.out]; exact World.drewN_drewN _ _ _⟩
    · obtain rfl : k = n := by omega
      have HV : Hid (isChans rows = true) := by show _ = _; rw [HF.out]; exact HK.out
      go_wp2
      go_ret
      exact ⟨by rw [HV.out]; rfl, q, HW.out⟩
end Go.Proofs.Ytfmhbphbgdijpaa
