/- walks: correlations -/
import Derived.Test.YtgfhmihnnjcagaaW2
set_option linter.unusedVariables false
set_option linter.unusedSimpArgs false
namespace Go.Proofs.Ytgfhmihnnjcagaa
open Go.RowKit

set_option maxHeartbeats 1000000 in
theorem iCorr_any (A : Option Addr) (n c k : Nat) (xs : List Int) (w : World) (hn : xs.length = n) (hm : n ≤ 400) (hk : k ≤ 400) (hb : Hid (Sig xs)) (hr : Rd w A xs) :
    Calls Try.prog 94 #[.slice A n c, .int .i64 k] w fun en w9 => en = .returned (.int .i64 (corr xs k)) ∧ ∃ m, w9 = w.drewN m := by
  have HF : Hid (corr xs k = corrTo xs k (n - k)) := by show _ = _; rw [← hn]; rfl
  rcases hr with rfl | ⟨b, off, rfl, hc⟩
  · obtain rfl : n = 0 := by simpa using hn.symm
    have h0 : ¬ (k : Int) < 0 := by omega
    have HZ : Hid (corr [] k = 0) := by show _ = _; rw [HF.out, Nat.zero_sub]; rfl
    go_enter Try.func94, Try.ntmps94
    go_wp2
    refine wp_loop_rounds 1 ?_
    rw [rounds_succ]
    go_wp2
    go_ret
    exact ⟨by rw [HZ.out]; rfl, 0, rfl⟩
  · have HC := Lib.hid hc; clear hc
    have HN := Lib.hid hn; clear hn
    go_enter Try.func94, Try.ntmps94
    go_wp2
    go_loopw [5, 6] (fun s i wr => ∃ j m : Nat, j ≤ n - k ∧ i = .int .i64 (j : Int) ∧ s = .int .i64 (corrTo xs k j) ∧ wr = w.drewN m) (fun _ i _ => n - (intOf i).toNat)
    case atStart => exact ⟨0, 0, Nat.zero_le _, rfl, rfl, rfl⟩
    case round =>
      obtain ⟨j, m, hj, rfl, rfl, rfl⟩ := hrel
      have hbd := corrTo_bd hb.out k j
      by_cases hlt : j + k < n
      · have hck := HC.out j (by rw [HN.out]; omega)
        have hdk := HC.out (j + k) (by rw [HN.out]; exact hlt)
        have hxb := hb.out.at j
        have hyb := hb.out.at (j + k)
        have HT : Hid (corrTo xs k (j + 1) = corrTo xs k j + xs.getD j 0 * xs.getD (j + k) 0) := rfl
        obtain ⟨x, hx⟩ : ∃ x, x = xs.getD j 0 := ⟨_, rfl⟩
        rw [← hx] at hck hxb
        obtain ⟨y, hy⟩ : ∃ y, y = xs.getD (j + k) 0 := ⟨_, rfl⟩
        rw [← hy] at hdk hyb
        have HX := Lib.hid hx; have HY := Lib.hid hy; clear hx hy
        have hxy := mul_bd hxb hyb
        have hi0 : (j : Int) < n := by omega
        have hi1 : (j : Int) + k < n := by omega
        have HN2 : Hid (((j : Int) + k).toNat = j + k) := by show _ = _; omega
        go_wp2
        go_quiet (fail)
        go_wp2
        go_roundw
        case rel => exact ⟨j + 1, m + nq, by omega, by go_num, by rw [HT.out, ← HX.out, ← HY.out], rfl⟩
        case measure => simp [intOf]; omega
      · have HE : Hid (corrTo xs k j = corrTo xs k (n - k)) := by
          show _ = _
          by_cases h0 : j = n - k
          · rw [h0]
          · omega
        have hi1 : ¬ ((j : Int) + k < n) := by omega
        go_wp2
        go_ret
        exact ⟨by rw [HF.out, ← HE.out]; rfl, m, rfl⟩

set_option maxHeartbeats 1000000 in
theorem sCorr_any (A : Option Addr) (n c k : Nat) (xs : List Int) (w : World) (hn : xs.length = n) (hm : n ≤ 400) (hk : k ≤ 400) (hb : Hid (Sig xs)) (hr : Rd w A xs) :
    Calls Try.prog 93 #[.slice A n c, .int .i64 k] w fun en w9 => en = .returned (.int .i64 (corr xs k)) ∧ ∃ m, w9 = w.drewN m := by
  have HF : Hid (corr xs k = corrTo xs k (n - k)) := by show _ = _; rw [← hn]; rfl
  rcases hr with rfl | ⟨b, off, rfl, hc⟩
  · obtain rfl : n = 0 := by simpa using hn.symm
    have h0 : ¬ (k : Int) < 0 := by omega
    have HZ : Hid (corr [] k = 0) := by show _ = _; rw [HF.out, Nat.zero_sub]; rfl
    go_enter Try.func93, Try.ntmps93
    go_wp2
    refine wp_loop_rounds 1 ?_
    rw [rounds_succ]
    go_wp2
    go_ret
    exact ⟨by rw [HZ.out]; rfl, 0, rfl⟩
  · have HC := Lib.hid hc; clear hc
    have HN := Lib.hid hn; clear hn
    go_enter Try.func93, Try.ntmps93
    go_wp2
    go_loopw [5, 6] (fun s i wr => ∃ j m : Nat, j ≤ n - k ∧ i = .int .i64 (j : Int) ∧ s = .int .i64 (corrTo xs k j) ∧ wr = w.drewN m) (fun _ i _ => n - (intOf i).toNat)
    case atStart => exact ⟨0, 0, Nat.zero_le _, rfl, rfl, rfl⟩
    case round =>
      obtain ⟨j, m, hj, rfl, rfl, rfl⟩ := hrel
      have hbd := corrTo_bd hb.out k j
      by_cases hlt : j + k < n
      · have hck := HC.out j (by rw [HN.out]; omega)
        have hdk := HC.out (j + k) (by rw [HN.out]; exact hlt)
        have hxb := hb.out.at j
        have hyb := hb.out.at (j + k)
        have HT : Hid (corrTo xs k (j + 1) = corrTo xs k j + xs.getD j 0 * xs.getD (j + k) 0) := rfl
        obtain ⟨x, hx⟩ : ∃ x, x = xs.getD j 0 := ⟨_, rfl⟩
        rw [← hx] at hck hxb
        obtain ⟨y, hy⟩ : ∃ y, y = xs.getD (j + k) 0 := ⟨_, rfl⟩
        rw [← hy] at hdk hyb
        have HX := Lib.hid hx; have HY := Lib.hid hy; clear hx hy
        have hxy := mul_bd hxb hyb
        have hi0 : (j : Int) < n := by omega
        have hi1 : (j : Int) + k < n := by omega
        have HN2 : Hid (((j : Int) + k).toNat = j + k) := by show _ = _; omega
        go_wp2
        go_quiet (fail)
        go_wp2
        go_roundw
        case rel => exact ⟨j + 1, m + nq, by omega, by go_num, by rw [HT.out, ← HX.out, ← HY.out], rfl⟩
        case measure => simp [intOf]; omega
      · have HE : Hid (corrTo xs k j = corrTo xs k (n - k)) := by
          show _ = _
          by_cases h0 : j = n - k
          · rw [h0]
          · omega
        have hi1 : ¬ ((j : Int) + k < n) := by omega
        go_wp2
        go_ret
        exact ⟨by rw [HF.out, ← HE.out]; rfl, m, rfl⟩
end Go.Proofs.Ytgfhmihnnjcagaa
