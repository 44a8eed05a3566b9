/- walks: exact counts, tails -/
import Derived.Test.YtoaldcibmcmfdaaW1
set_option linter.unusedVariables false
set_option linter.unusedSimpArgs false
namespace Go.Proofs.Ytoaldcibmcmfdaa
open Go.RowKit

theorem ex_top (n : Nat) (a k : Int) (h0 : 0 ≤ a) (h1 : a ≤ 16) : ex n a k ≤ p16 n := by
  rcases Int.lt_or_le k 0 with h | h
  · rw [ex_neg n a k h]; have := p16_pos n; omega
  · obtain ⟨j, rfl⟩ := Int.eq_ofNat_of_zero_le h
    have e1 : exSum n a (j + 1) = exSum n a j + ex n a j := rfl
    have := exSum_nonneg n a h0 h1 j
    have := exSum_top n a h0 h1 (j + 1)
    show ex n a j ≤ _
    omega
theorem mul16 {a x M : Int} (h0 : 0 ≤ a) (h1 : a ≤ 16) (hx : 0 ≤ x) (hM : x ≤ M) : 0 ≤ a * x ∧ a * x ≤ 16 * M := by
  have := Int.mul_nonneg h0 hx
  have h2 : a * x ≤ 16 * x := Int.mul_le_mul_of_nonneg_right h1 hx
  omega
set_option maxHeartbeats 1000000 in
theorem sExact_any (n : Nat) : ∀ (a k : Int) (w : World), n ≤ 12 → 0 ≤ a → a ≤ 16 → -20 ≤ k → k ≤ 20 →
    Calls Try.prog 67 #[.int .i64 n, .int .i64 a, .int .i64 k] w fun en w9 => en = .returned (.int .i64 (ex n a k)) ∧ w = w9 := by
  induction n with
  | zero =>
    intro a k w _ h0 h1 hk0 hk1
    by_cases hlo : k < 0
    · go_enter Try.func67, Try.ntmps67
      go_wp2_with fail
      go_ret
      exact ⟨by rw [ex_neg 0 a k hlo]; rfl, rfl⟩
    · by_cases hhi : (0 : Int) < k
      · have e : ((0 : Nat) : Int) < k := by omega
        go_enter Try.func67, Try.ntmps67
        go_wp2_with fail
        go_ret
        exact ⟨by rw [ex_big 0 a k (by omega)]; rfl, rfl⟩
      · obtain rfl : k = 0 := by omega
        go_enter Try.func67, Try.ntmps67
        go_wp2_with fail
        go_ret
        exact ⟨by simp [ex], rfl⟩
  | succ n ih =>
    intro a k w hn h0 h1 hk0 hk1
    by_cases hlo : k < 0
    · go_enter Try.func67, Try.ntmps67
      go_wp2_with fail
      go_ret
      exact ⟨by rw [ex_neg (n + 1) a k hlo]; rfl, rfl⟩
    · by_cases hhi : (n : Int) + 1 < k
      · go_enter Try.func67, Try.ntmps67
        go_wp2_with fail
        go_ret
        exact ⟨by rw [ex_big (n + 1) a k (by omega)]; rfl, rfl⟩
      · have hb := p16_le n (by omega)
        have m1 := mul16 h0 h1 (ex_nonneg n a (k - 1) h0 h1) (ex_top n a (k - 1) h0 h1)
        have m2 := mul16 (a := 16 - a) (by omega) (by omega) (ex_nonneg n a k h0 h1) (ex_top n a k h0 h1)
        have hz : ¬ (n : Int) + 1 = 0 := by omega
        have I1 := Lib.hid (ih a (k - 1)); have I2 := Lib.hid (ih a k)
        clear ih
        go_enter Try.func67, Try.ntmps67
        go_wp2_with fail
        refine (I1.out _ (by omega) h0 h1 (by omega) (by omega)).mono ?_
        rintro en w1 ⟨rfl, rfl⟩
        go_wp2_with fail
        refine (I2.out _ (by omega) h0 h1 (by omega) (by omega)).mono ?_
        rintro en w1 ⟨rfl, rfl⟩
        go_wp2_with fail
        go_ret
        exact ⟨by rw [ex_succ]; rfl, rfl⟩
set_option maxHeartbeats 1000000 in
theorem sTail_any (n m : Nat) (a : Int) (w : World) (hn : n ≤ 12) (h0 : 0 ≤ a) (h1 : a ≤ 16) (hm : m ≤ n + 1) :
    Calls Try.prog 44 #[.int .i64 n, .int .i64 a, .int .i64 m] w fun en w9 => en = .returned (.int .i64 (tail n a m)) ∧ w = w9 := by
  go_enter Try.func44, Try.ntmps44
  go_wp2
  go_loop [7, 8] (fun s k => ∃ j : Nat, m ≤ j ∧ j ≤ n + 1 ∧ k = .int .i64 (j : Int) ∧ s = .int .i64 (exSum n a j - exSum n a m)) (fun _ k => n + 1 - (intOf k).toNat)
  case atStart => exact ⟨m, Nat.le_refl _, hm, rfl, by simp⟩
  case round =>
    obtain ⟨j, hj0, hj, rfl, rfl⟩ := hrel
    have hb := p16_le n hn
    have e1 := exSum_top n a h0 h1 j
    have e2 := exSum_le n a h0 h1 m j hj0
    have e3 := exSum_nonneg n a h0 h1 m
    have e4 := exSum_top n a h0 h1 (j + 1)
    have e5 := ex_nonneg n a j h0 h1
    have E6 : Hid (exSum n a (j + 1) = exSum n a j + ex n a j) := rfl
    have e7 : exSum n a j + ex n a j ≤ p16 n := by rw [← E6.out]; exact e4
    by_cases hlt : (j : Int) ≤ n
    · go_wp2_with (go_at_call 67; refine (sExact_any _ _ _ _ hn h0 h1 (by omega) (by omega)).mono ?_; rintro en w1 ⟨rfl, rfl⟩)
      go_round
      case rel => exact ⟨j + 1, by omega, by omega, by go_num, by rw [E6.out]; congr 1; omega⟩
      case measure => simp [intOf]; omega
    · have hgt : (n : Int) < j := by omega
      have H : Hid (tail n a m = exSum n a j - exSum n a m) := by show _ = _; unfold tail; rw [exSum_all n a j (by omega)]
      go_wp2
      go_ret
      refine ⟨?_, rfl⟩
      rw [H.out]; rfl
end Go.Proofs.Ytoaldcibmcmfdaa
