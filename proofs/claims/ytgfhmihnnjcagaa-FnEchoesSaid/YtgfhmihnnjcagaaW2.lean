/- walks: weights, correlations, peaks -/
import Derived.Test.YtgfhmihnnjcagaaWL
import Derived.Test.YtgfhmihnnjcagaaPlain2
set_option linter.unusedVariables false
set_option linter.unusedSimpArgs false
namespace Go.Proofs.Ytgfhmihnnjcagaa
open Go.RowKit

theorem Rd.drewN {w : World} {A : Option Addr} {xs : List Int} (h : Rd w A xs) (m : Nat) : Rd (w.drewN m) A xs := h.of_eq fun a v hv => hv

set_option maxHeartbeats 1000000 in
theorem iWt_any (A : Option Addr) (n c : Nat) (xs : List Int) (w : World) (hn : xs.length = n) (hm : n ≤ 400) (hb : Hid (Sig xs)) (hr : Rd w A xs) :
    Calls Try.prog 87 #[.slice A n c] w fun en w9 => en = .returned (.int .i64 (wt xs)) ∧ w = w9 := by
  have HF : Hid (wt xs = wtTo xs n) := by show _ = _; rw [← hn]; rfl
  rcases hr with rfl | ⟨b, off, rfl, hc⟩
  · obtain rfl : n = 0 := by simpa using hn.symm
    go_enter Try.func87, Try.ntmps87
    go_wp2
    refine wp_loop_rounds 1 ?_
    rw [rounds_succ]
    go_wp2
    go_ret
    exact ⟨by rw [HF.out]; rfl, rfl⟩
  · have HC := Lib.hid hc; clear hc
    have HN := Lib.hid hn; clear hn
    go_enter Try.func87, Try.ntmps87
    go_wp2
    go_loop [3, 8] (fun s i => ∃ k : Nat, k ≤ n ∧ i = .int .i64 (k : Int) ∧ s = .int .i64 (wtTo xs k)) (fun _ i => n - (intOf i).toNat)
    case atStart => exact ⟨0, Nat.zero_le _, rfl, rfl⟩
    case round =>
      obtain ⟨k, hk, rfl, rfl⟩ := hrel
      have hbd := wtTo_bd hb.out k
      by_cases hlt : k < n
      · have hck := HC.out k (by rw [HN.out]; exact hlt)
        have hxb := hb.out.at k
        have hab := iabs_bd hxb
        have HT : Hid (wtTo xs (k + 1) = wtTo xs k + iabs (xs.getD k 0)) := rfl
        obtain ⟨x, hx⟩ : ∃ x, x = xs.getD k 0 := ⟨_, rfl⟩
        rw [← hx] at hck hxb hab
        have HX := Lib.hid hx; clear hx
        go_wp2_with (first | (go_at_call 82; refine (iAbs_any _ _ (by omega) (by omega)).mono ?_; rintro en w1 ⟨rfl, rfl⟩))
        go_round
        case rel => exact ⟨k + 1, by omega, by go_num, by rw [HT.out, ← HX.out]⟩
        case measure => simp [intOf]; omega
      · obtain rfl : k = n := by omega
        go_wp2
        go_ret
        exact ⟨by rw [HF.out]; rfl, rfl⟩

set_option maxHeartbeats 1000000 in
theorem sWt_any (A : Option Addr) (n c : Nat) (xs : List Int) (w : World) (hn : xs.length = n) (hm : n ≤ 400) (hb : Hid (Sig xs)) (hr : Rd w A xs) :
    Calls Try.prog 86 #[.slice A n c] w fun en w9 => en = .returned (.int .i64 (wt xs)) ∧ w = w9 := by
  have HF : Hid (wt xs = wtTo xs n) := by show _ = _; rw [← hn]; rfl
  rcases hr with rfl | ⟨b, off, rfl, hc⟩
  · obtain rfl : n = 0 := by simpa using hn.symm
    go_enter Try.func86, Try.ntmps86
    go_wp2
    refine wp_loop_rounds 1 ?_
    rw [rounds_succ]
    go_wp2
    go_ret
    exact ⟨by rw [HF.out]; rfl, rfl⟩
  · have HC := Lib.hid hc; clear hc
    have HN := Lib.hid hn; clear hn
    go_enter Try.func86, Try.ntmps86
    go_wp2
    go_loop [3, 4] (fun s i => ∃ k : Nat, k ≤ n ∧ i = .int .i64 (k : Int) ∧ s = .int .i64 (wtTo xs k)) (fun _ i => n - (intOf i).toNat)
    case atStart => exact ⟨0, Nat.zero_le _, rfl, rfl⟩
    case round =>
      obtain ⟨k, hk, rfl, rfl⟩ := hrel
      have hbd := wtTo_bd hb.out k
      by_cases hlt : k < n
      · have hck := HC.out k (by rw [HN.out]; exact hlt)
        have hxb := hb.out.at k
        have hab := iabs_bd hxb
        have HT : Hid (wtTo xs (k + 1) = wtTo xs k + iabs (xs.getD k 0)) := rfl
        obtain ⟨x, hx⟩ : ∃ x, x = xs.getD k 0 := ⟨_, rfl⟩
        rw [← hx] at hck hxb hab
        have HX := Lib.hid hx; clear hx
        go_wp2_with (first | (go_at_call 75; refine (sAbs_any _ _ (by omega) (by omega)).mono ?_; rintro en w1 ⟨rfl, rfl⟩))
        go_round
        case rel => exact ⟨k + 1, by omega, by go_num, by rw [HT.out, ← HX.out]⟩
        case measure => simp [intOf]; omega
      · obtain rfl : k = n := by omega
        go_wp2
        go_ret
        exact ⟨by rw [HF.out]; rfl, rfl⟩
end Go.Proofs.Ytgfhmihnnjcagaa
