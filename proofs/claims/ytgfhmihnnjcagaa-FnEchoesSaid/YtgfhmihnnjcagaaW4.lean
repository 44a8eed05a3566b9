/- walks: sidelobes, peaks -/
import Derived.Test.YtgfhmihnnjcagaaW3
set_option linter.unusedVariables false
set_option linter.unusedSimpArgs false
namespace Go.Proofs.Ytgfhmihnnjcagaa
open Go.RowKit

theorem sideTo_up {xs : List Int} {k : Nat} (h : 1 ≤ k) (hm : sideTo xs (k - 1) < iabs (corr xs k)) : sideTo xs (k + 1 - 1) = iabs (corr xs k) := by
  obtain ⟨j, rfl⟩ : ∃ j, k = j + 1 := ⟨k - 1, by omega⟩
  simp only [Nat.add_sub_cancel] at *
  simp only [sideTo]; omega
theorem sideTo_stay {xs : List Int} {k : Nat} (h : 1 ≤ k) (hm : iabs (corr xs k) ≤ sideTo xs (k - 1)) : sideTo xs (k + 1 - 1) = sideTo xs (k - 1) := by
  obtain ⟨j, rfl⟩ : ∃ j, k = j + 1 := ⟨k - 1, by omega⟩
  simp only [Nat.add_sub_cancel] at *
  simp only [sideTo]; omega

set_option maxHeartbeats 1000000 in
theorem iSide_any (A : Option Addr) (n c : Nat) (xs : List Int) (w : World) (hn : xs.length = n) (hm : n ≤ 400) (hb : Hid (Sig xs)) (hr : Rd w A xs) :
    Calls Try.prog 104 #[.slice A n c] w fun en w9 => en = .returned (.int .i64 (side xs)) ∧ ∃ m, w9 = w.drewN m := by
  have HF : Hid (side xs = sideTo xs (n - 1)) := by show _ = _; rw [← hn]; rfl
  go_enter Try.func104, Try.ntmps104
  go_wp2
  go_loopw [3, 4] (fun s i wr => ∃ k m : Nat, 1 ≤ k ∧ k - 1 ≤ n - 1 ∧ i = .int .i64 (k : Int) ∧ s = .int .i64 (sideTo xs (k - 1)) ∧ wr = w.drewN m) (fun _ i _ => n - (intOf i).toNat)
  case atStart => exact ⟨1, 0, by omega, by omega, rfl, rfl, rfl⟩
  case round =>
    obtain ⟨k, m, hk1, hk, rfl, rfl, rfl⟩ := hrel
    have hbd := sideTo_bd hb.out (by rw [hn]; exact hm) (k - 1)
    have hcd := corr_bd hb.out (by rw [hn]; exact hm) k
    have hcb := iabs_bd hcd
    by_cases hlt : k < n
    · rcases Int.lt_or_le (sideTo xs (k - 1)) (iabs (corr xs k)) with hmx | hmx
      · have HT := Lib.hid (sideTo_up hk1 hmx)
        obtain ⟨v, hv⟩ : ∃ v, v = sideTo xs (k - 1) := ⟨_, rfl⟩
        rw [← hv] at hmx hbd ⊢
        go_wp2_with (first | (go_at_call 94; refine (iCorr_any _ _ _ _ _ _ (by assumption) (by omega) (by omega) (by assumption) (by first | assumption | exact Rd.drewN (by assumption) _ | exact Rd.drewN (Rd.drewN (by assumption) _) _)).mono ?_; rintro en w1 ⟨rfl, mq, rfl⟩) | (go_at_call 82; refine (iAbs_any _ _ (by omega) (by omega)).mono ?_; rintro en w1 ⟨rfl, rfl⟩))
        go_roundw
        case rel => exact ⟨k + 1, _, by omega, by omega, by go_num, by rw [HT.out], rfl⟩
        case measure => simp [intOf]; omega
      · have HT := Lib.hid (sideTo_stay hk1 hmx)
        obtain ⟨v, hv⟩ : ∃ v, v = sideTo xs (k - 1) := ⟨_, rfl⟩
        rw [← hv] at hmx hbd HT ⊢
        go_wp2_with (first | (go_at_call 94; refine (iCorr_any _ _ _ _ _ _ (by assumption) (by omega) (by omega) (by assumption) (by first | assumption | exact Rd.drewN (by assumption) _ | exact Rd.drewN (Rd.drewN (by assumption) _) _)).mono ?_; rintro en w1 ⟨rfl, mq, rfl⟩) | (go_at_call 82; refine (iAbs_any _ _ (by omega) (by omega)).mono ?_; rintro en w1 ⟨rfl, rfl⟩))
        go_roundw
        case rel => exact ⟨k + 1, _, by omega, by omega, by go_num, by rw [HT.out, hv], rfl⟩
        case measure => simp [intOf]; omega
    · have HE : Hid (sideTo xs (k - 1) = sideTo xs (n - 1)) := by
        show _ = _
        rw [show k - 1 = n - 1 by omega]
      go_wp2
      go_ret
      exact ⟨by rw [HF.out, ← HE.out]; rfl, m, rfl⟩

set_option maxHeartbeats 1000000 in
theorem sSide_any (A : Option Addr) (n c : Nat) (xs : List Int) (w : World) (hn : xs.length = n) (hm : n ≤ 400) (hb : Hid (Sig xs)) (hr : Rd w A xs) :
    Calls Try.prog 108 #[.slice A n c] w fun en w9 => en = .returned (.int .i64 (side xs)) ∧ ∃ m, w9 = w.drewN m := by
  have HF : Hid (side xs = sideTo xs (n - 1)) := by show _ = _; rw [← hn]; rfl
  go_enter Try.func108, Try.ntmps108
  go_wp2
  go_loopw [3, 4] (fun s i wr => ∃ k m : Nat, 1 ≤ k ∧ k - 1 ≤ n - 1 ∧ i = .int .i64 (k : Int) ∧ s = .int .i64 (sideTo xs (k - 1)) ∧ wr = w.drewN m) (fun _ i _ => n - (intOf i).toNat)
  case atStart => exact ⟨1, 0, by omega, by omega, rfl, rfl, rfl⟩
  case round =>
    obtain ⟨k, m, hk1, hk, rfl, rfl, rfl⟩ := hrel
    have hbd := sideTo_bd hb.out (by rw [hn]; exact hm) (k - 1)
    have hcd := corr_bd hb.out (by rw [hn]; exact hm) k
    have hcb := iabs_bd hcd
    by_cases hlt : k < n
    · rcases Int.lt_or_le (sideTo xs (k - 1)) (iabs (corr xs k)) with hmx | hmx
      · have HT := Lib.hid (sideTo_up hk1 hmx)
        obtain ⟨v, hv⟩ : ∃ v, v = sideTo xs (k - 1) := ⟨_, rfl⟩
        rw [← hv] at hmx hbd ⊢
        go_wp2_with (first | (go_at_call 93; refine (sCorr_any _ _ _ _ _ _ (by assumption) (by omega) (by omega) (by assumption) (by first | assumption | exact Rd.drewN (by assumption) _ | exact Rd.drewN (Rd.drewN (by assumption) _) _)).mono ?_; rintro en w1 ⟨rfl, mq, rfl⟩) | (go_at_call 75; refine (sAbs_any _ _ (by omega) (by omega)).mono ?_; rintro en w1 ⟨rfl, rfl⟩))
        go_roundw
        case rel => exact ⟨k + 1, _, by omega, by omega, by go_num, by rw [HT.out], rfl⟩
        case measure => simp [intOf]; omega
      · have HT := Lib.hid (sideTo_stay hk1 hmx)
        obtain ⟨v, hv⟩ : ∃ v, v = sideTo xs (k - 1) := ⟨_, rfl⟩
        rw [← hv] at hmx hbd HT ⊢
        go_wp2_with (first | (go_at_call 93; refine (sCorr_any _ _ _ _ _ _ (by assumption) (by omega) (by omega) (by assumption) (by first | assumption | exact Rd.drewN (by assumption) _ | exact Rd.drewN (Rd.drewN (by assumption) _) _)).mono ?_; rintro en w1 ⟨rfl, mq, rfl⟩) | (go_at_call 75; refine (sAbs_any _ _ (by omega) (by omega)).mono ?_; rintro en w1 ⟨rfl, rfl⟩))
        go_roundw
        case rel => exact ⟨k + 1, _, by omega, by omega, by go_num, by rw [HT.out, hv], rfl⟩
        case measure => simp [intOf]; omega
    · have HE : Hid (sideTo xs (k - 1) = sideTo xs (n - 1)) := by
        show _ = _
        rw [show k - 1 = n - 1 by omega]
      go_wp2
      go_ret
      exact ⟨by rw [HF.out, ← HE.out]; rfl, m, rfl⟩

def Val (xs : List Int) : Prop := ∀ x ∈ xs, -1000000000000 ≤ x ∧ x ≤ 1000000000000
theorem Val.at {xs : List Int} (h : Val xs) (i : Nat) : -1000000000000 ≤ xs.getD i 0 ∧ xs.getD i 0 ≤ 1000000000000 := by
  by_cases hi : i < xs.length
  · exact h _ (List.mem_of_getElem? (getD_at hi))
  · rw [List.getD_eq_getElem?_getD, List.getElem?_eq_none (by omega)]; decide
theorem peak_up {xs : List Int} {k : Nat} (h : iabs (xs.getD (peakTo xs k) 0) < iabs (xs.getD k 0)) : peakTo xs (k + 1) = k := by simp only [peakTo]; rw [if_pos h]
theorem peak_stay {xs : List Int} {k : Nat} (h : iabs (xs.getD k 0) ≤ iabs (xs.getD (peakTo xs k) 0)) : peakTo xs (k + 1) = peakTo xs k := by simp only [peakTo]; rw [if_neg (by omega)]
theorem peakTo_bd {xs : List Int} {k n : Nat} (h : k ≤ n) (hn : 0 < n) : peakTo xs k < n := by
  rcases Nat.eq_zero_or_pos k with h0 | h0
  · subst h0; exact hn
  · exact Nat.lt_of_lt_of_le (peakTo_lt xs k h0) h
theorem peakTo_one (xs : List Int) : peakTo xs 1 = 0 := by
  simp only [peakTo]; exact ite_self _

set_option maxHeartbeats 2000000 in
theorem iPeak_any (A : Option Addr) (n c : Nat) (xs : List Int) (w : World) (hn : xs.length = n) (hm : n ≤ 400) (hb : Hid (Val xs)) (h0 : 0 < n) (hr : Rd w A xs) :
    Calls Try.prog 81 #[.slice A n c] w fun en w9 => en = .returned (.int .i64 (peakIx xs)) ∧ ∃ m, w9 = w.drewN m := by
  have HF : Hid (peakIx xs = peakTo xs n) := by show _ = _; rw [← hn]; rfl
  rcases hr with rfl | ⟨b, off, rfl, hc⟩
  · exfalso; rw [← hn] at h0; exact absurd h0 (Nat.lt_irrefl _)
  · have HC := Lib.hid hc; clear hc
    have HN := Lib.hid hn; clear hn
    go_enter Try.func81, Try.ntmps81
    go_wp2
    go_loopw [3, 8] (fun s i wr => ∃ k q m : Nat, k ≤ n ∧ q < n ∧ i = .int .i64 (k : Int) ∧ s = .int .i64 (q : Int) ∧ Hid (q = peakTo xs k) ∧ wr = w.drewN m) (fun _ i _ => n - (intOf i).toNat)
    case atStart => exact ⟨0, 0, 0, by omega, h0, rfl, rfl, rfl, rfl⟩
    case round =>
      obtain ⟨k, q, m, hk, hq, rfl, rfl, HQ, hwr⟩ := hrel
      have HW := Lib.hid hwr; clear hwr
      by_cases hlt : k < n
      · have hck : wr.cell? ⟨b, off + k, none⟩ = some (.int .i64 (xs.getD k 0)) := by rw [HW.out]; exact HC.out k (by rw [HN.out]; exact hlt)
        have hdk : wr.cell? ⟨b, off + q, none⟩ = some (.int .i64 (xs.getD q 0)) := by rw [HW.out]; exact HC.out q (by rw [HN.out]; exact hq)
        have hxb := hb.out.at k
        have hyb := hb.out.at q
        have HXU : iabs (xs.getD q 0) < iabs (xs.getD k 0) → Hid (k = peakTo xs (k + 1)) := fun h => (peak_up (by rw [← HQ.out]; exact h)).symm
        have HXS : iabs (xs.getD k 0) ≤ iabs (xs.getD q 0) → Hid (q = peakTo xs (k + 1)) := fun h => by
          show _ = _
          rw [peak_stay (by rw [← HQ.out]; exact h)]; exact HQ.out
        obtain ⟨x, hx⟩ : ∃ x, x = xs.getD k 0 := ⟨_, rfl⟩
        rw [← hx] at hck hxb HXU HXS
        obtain ⟨y, hy⟩ : ∃ y, y = xs.getD q 0 := ⟨_, rfl⟩
        rw [← hy] at hdk hyb HXU HXS
        clear hx hy
        have hxa := iabs_bd hxb
        have hya := iabs_bd hyb
        have hi0 : (k : Int) < n := by omega
        have hi1 : (q : Int) < n := by omega
        rcases Int.lt_or_le (iabs y) (iabs x) with hxy | hxy
        · have HP := HXU hxy
          clear HXU HXS
          go_wp2
          go_quiet (first | (go_at_call 82; exact Calls.quiet_of_same ((iAbs_any _ _ (by omega) (by omega)).mono fun _ _ h => ⟨h.1, h.2.symm⟩)))
          go_wp2
          go_roundw
          case rel => exact ⟨k + 1, k, m + nq, by omega, hlt, by go_num, rfl, HP, by rw [HW.out]; exact World.drewN_drewN _ _ _⟩
          case measure => simp [intOf]; omega
        · have HP := HXS hxy
          clear HXU HXS
          go_wp2
          go_quiet (first | (go_at_call 82; exact Calls.quiet_of_same ((iAbs_any _ _ (by omega) (by omega)).mono fun _ _ h => ⟨h.1, h.2.symm⟩)))
          go_wp2
          go_roundw
          case rel => exact ⟨k + 1, q, m + nq, by omega, hq, by go_num, rfl, HP, by rw [HW.out]; exact World.drewN_drewN _ _ _⟩
          case measure => simp [intOf]; omega
      · obtain rfl : k = n := by omega
        have HE : Hid ((q : Int) = peakIx xs) := by show _ = _; rw [HF.out, HQ.out]
        go_wp2
        go_ret
        exact ⟨by rw [← HE.out]; rfl, m, HW.out⟩

set_option maxHeartbeats 2000000 in
theorem sPeak_any (A : Option Addr) (n c : Nat) (xs : List Int) (w : World) (hn : xs.length = n) (hm : n ≤ 400) (hb : Hid (Val xs)) (h0 : 0 < n) (hr : Rd w A xs) :
    Calls Try.prog 88 #[.slice A n c] w fun en w9 => en = .returned (.int .i64 (peakIx xs)) ∧ ∃ m, w9 = w.drewN m := by
  have HF : Hid (peakIx xs = peakTo xs n) := by show _ = _; rw [← hn]; rfl
  rcases hr with rfl | ⟨b, off, rfl, hc⟩
  · exfalso; rw [← hn] at h0; exact absurd h0 (Nat.lt_irrefl _)
  · have HC := Lib.hid hc; clear hc
    have HN := Lib.hid hn; clear hn
    go_enter Try.func88, Try.ntmps88
    go_wp2
    go_loopw [3, 4] (fun s i wr => ∃ k q m : Nat, k ≤ n ∧ q < n ∧ i = .int .i64 (k : Int) ∧ s = .int .i64 (q : Int) ∧ Hid (q = peakTo xs k) ∧ wr = w.drewN m) (fun _ i _ => n - (intOf i).toNat)
    case atStart => exact ⟨1, 0, 0, by omega, h0, rfl, rfl, (peakTo_one xs).symm, rfl⟩
    case round =>
      obtain ⟨k, q, m, hk, hq, rfl, rfl, HQ, hwr⟩ := hrel
      have HW := Lib.hid hwr; clear hwr
      by_cases hlt : k < n
      · have hck : wr.cell? ⟨b, off + k, none⟩ = some (.int .i64 (xs.getD k 0)) := by rw [HW.out]; exact HC.out k (by rw [HN.out]; exact hlt)
        have hdk : wr.cell? ⟨b, off + q, none⟩ = some (.int .i64 (xs.getD q 0)) := by rw [HW.out]; exact HC.out q (by rw [HN.out]; exact hq)
        have hxb := hb.out.at k
        have hyb := hb.out.at q
        have HXU : iabs (xs.getD q 0) < iabs (xs.getD k 0) → Hid (k = peakTo xs (k + 1)) := fun h => (peak_up (by rw [← HQ.out]; exact h)).symm
        have HXS : iabs (xs.getD k 0) ≤ iabs (xs.getD q 0) → Hid (q = peakTo xs (k + 1)) := fun h => by
          show _ = _
          rw [peak_stay (by rw [← HQ.out]; exact h)]; exact HQ.out
        obtain ⟨x, hx⟩ : ∃ x, x = xs.getD k 0 := ⟨_, rfl⟩
        rw [← hx] at hck hxb HXU HXS
        obtain ⟨y, hy⟩ : ∃ y, y = xs.getD q 0 := ⟨_, rfl⟩
        rw [← hy] at hdk hyb HXU HXS
        clear hx hy
        have hxa := iabs_bd hxb
        have hya := iabs_bd hyb
        have hi0 : (k : Int) < n := by omega
        have hi1 : (q : Int) < n := by omega
        rcases Int.lt_or_le (iabs y) (iabs x) with hxy | hxy
        · have HP := HXU hxy
          clear HXU HXS
          go_wp2
          go_quiet (first | (go_at_call 75; exact Calls.quiet_of_same ((sAbs_any _ _ (by omega) (by omega)).mono fun _ _ h => ⟨h.1, h.2.symm⟩)))
          go_wp2
          go_roundw
          case rel => exact ⟨k + 1, k, m + nq, by omega, hlt, by go_num, rfl, HP, by rw [HW.out]; exact World.drewN_drewN _ _ _⟩
          case measure => simp [intOf]; omega
        · have HP := HXS hxy
          clear HXU HXS
          go_wp2
          go_quiet (first | (go_at_call 75; exact Calls.quiet_of_same ((sAbs_any _ _ (by omega) (by omega)).mono fun _ _ h => ⟨h.1, h.2.symm⟩)))
          go_wp2
          go_roundw
          case rel => exact ⟨k + 1, q, m + nq, by omega, hq, by go_num, rfl, HP, by rw [HW.out]; exact World.drewN_drewN _ _ _⟩
          case measure => simp [intOf]; omega
      · obtain rfl : k = n := by omega
        have HE : Hid ((q : Int) = peakIx xs) := by show _ = _; rw [HF.out, HQ.out]
        go_wp2
        go_ret
        exact ⟨by rw [← HE.out]; rfl, m, HW.out⟩
end Go.Proofs.Ytgfhmihnnjcagaa
