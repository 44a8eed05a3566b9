/- walks: LeastTrials -/
import Derived.Test.YtoaldcibmcmfdaaW3
import Derived.Test.YtoaldcibmcmfdaaW2
set_option linter.unusedVariables false
set_option linter.unusedSimpArgs false
namespace Go.Proofs.Ytoaldcibmcmfdaa
open Go.RowKit

/-- the least k from k on, in so many steps -/
def leastN (p : Nat → Bool) : Nat → Nat → Option Nat
  | 0, _ => none
  | f + 1, k => if p k then some k else leastN p f (k + 1)
theorem leastN_at (p : Nat → Bool) (f s k : Nat) (h : ∀ i, s ≤ i → i < k → p i = false) (hp : p k = true) (h1 : s ≤ k) (h2 : k < s + f) : leastN p f s = some k := by
  induction f generalizing s with
  | zero => omega
  | succ f ih =>
    unfold leastN
    by_cases e : s = k
    · subst e; rw [if_pos hp]
    · rw [if_neg (by rw [h s (Nat.le_refl _) (by omega)]; decide)]
      exact ih (s + 1) (fun i hi hik => h i (by omega) hik) (by omega) (by omega)
theorem leastN_none (p : Nat → Bool) (f s : Nat) (h : ∀ i, s ≤ i → i < s + f → p i = false) : leastN p f s = none := by
  induction f generalizing s with
  | zero => rfl
  | succ f ih =>
    unfold leastN
    rw [if_neg (by rw [h s (Nat.le_refl _) (by omega)]; decide)]
    exact ih (s + 1) (fun i hi hik => h i (by omega) (by omega))
def ltOk (a num den : Int) : Bool := inR a 0 16 && (inR den 1 1000 && inR num 0 den)
def ltTest (a num den : Int) (n : Nat) : Bool := decide (num * p16 n ≤ tail n a 1 * den)
def ltFind (a num den : Int) : Option Nat := if ltOk a num den then leastN (ltTest a num den) 13 0 else none
def ltVal (a num den : Int) : Int := match ltFind a num den with
  | some k => k
  | none => 0
def ltCode (a num den : Int) : Int := if ltOk a num den then (match ltFind a num den with
  | some _ => 0
  | none => 4) else 2
theorem lt_bad {a num den : Int} (h : ltOk a num den = false) : ltVal a num den = 0 ∧ ltCode a num den = 2 := by
  simp [ltVal, ltCode, ltFind, h]
theorem lt_hit {a num den : Int} {k : Nat} (h : ltOk a num den = true) (hk : k < 13) (hl : ∀ i, i < k → ltTest a num den i = false) (hp : ltTest a num den k = true) : ltVal a num den = k ∧ ltCode a num den = 0 := by
  have e := leastN_at (ltTest a num den) 13 0 k (fun i _ hi => hl i hi) hp (Nat.zero_le _) (by omega)
  simp [ltVal, ltCode, ltFind, h, e]
theorem lt_miss {a num den : Int} (h : ltOk a num den = true) (hl : ∀ i, i < 13 → ltTest a num den i = false) : ltVal a num den = 0 ∧ ltCode a num den = 4 := by
  have e := leastN_none (ltTest a num den) 13 0 (fun i _ hi => hl i (by omega))
  simp [ltVal, ltCode, ltFind, h, e]
theorem mulD {x M d D : Int} (hx : 0 ≤ x) (hM : x ≤ M) (hd : 0 ≤ d) (hD : d ≤ D) : 0 ≤ x * d ∧ x * d ≤ M * D := by
  have h1 := Int.mul_nonneg hx hd
  have h2 : x * d ≤ M * D := Int.mul_le_mul hM hD hd (by omega)
  exact ⟨h1, h2⟩
/-- (16 - a)^n -/
def q16 (a : Int) : Nat → Int
  | 0 => 1
  | n + 1 => q16 a n * (16 - a)
theorem q16_ex (a : Int) (n : Nat) : q16 a n = ex n a 0 := by
  induction n with
  | zero => rfl
  | succ n ih => rw [ex_succ, ex_neg n a (0 - 1) (by omega), q16, ih, Int.mul_comm]; omega
theorem tail_one (n : Nat) (a : Int) : tail n a 1 = p16 n - q16 a n := by
  rw [q16_ex]
  show p16 n - (0 + ex n a ((0 : Nat) : Int)) = _
  simp
theorem q16_bd (a : Int) (n : Nat) (h0 : 0 ≤ a) (h1 : a ≤ 16) : 0 ≤ q16 a n ∧ q16 a n ≤ p16 n := by
  rw [q16_ex]; exact ⟨ex_nonneg n a 0 h0 h1, ex_top n a 0 h0 h1⟩
theorem test_iff {a num den : Int} {n : Nat} : ltTest a num den n = true ↔ num * p16 n ≤ (p16 n - q16 a n) * den := by unfold ltTest; rw [tail_one, decide_eq_true_eq]
theorem test_not {a num den : Int} {n : Nat} : ltTest a num den n = false ↔ (p16 n - q16 a n) * den < num * p16 n := by unfold ltTest; rw [tail_one, decide_eq_false_iff_not]; omega
theorem ltOk_bd {a num den : Int} (h : ltOk a num den = true) : 0 ≤ a ∧ a ≤ 16 ∧ 1 ≤ den ∧ den ≤ 1000 ∧ 0 ≤ num ∧ num ≤ den := by
  simp only [ltOk, Bool.and_eq_true, inR_iff] at h; omega
theorem below_succ {p : Nat → Bool} {k : Nat} (h : ∀ i, i < k → p i = false) (hk : p k = false) : ∀ i, i < k + 1 → p i = false := fun i hi => by
  rcases Nat.lt_or_ge i k with h1 | h1
  · exact h i h1
  · have : i = k := by omega
    subst this; exact hk
set_option maxHeartbeats 2000000 in
theorem iTrials_any (a num den : Int) (w : World) :
    Calls Try.prog 17 #[.int .i64 a, .int .i64 num, .int .i64 den] w fun en w9 => en = .returned (.tuple #[.int .i64 (ltVal a num den), .int .i64 (ltCode a num den)]) ∧ w = w9 := by
  cases hok : ltOk a num den
  · obtain ⟨e1, e2⟩ := lt_bad hok
    have E1 := Lib.hid e1; have E2 := Lib.hid e2; clear e1 e2
    have hc : inR a 0 16 = true → (inR den 1 1000 && inR num 0 den) = false := fun h => by simpa [ltOk, h] using hok
    clear hok
    rcases Bool.eq_false_or_eq_true (inR a 0 16) with h1 | h1
    · have h2 := hc h1
      clear hc
      go_enter Try.func17, Try.ntmps17
      go_wp2_with (first | (go_at_call 45; refine (isChance_any _ _).mono ?_; rintro en w1 ⟨rfl, rfl⟩) | (go_at_call 46; refine (iFrac_any _ _ _).mono ?_; rintro en w1 ⟨rfl, rfl⟩) | (go_at_call 42; refine (iPower_any _ _ (by omega)).mono ?_; rintro en w1 ⟨rfl, rfl⟩))
      go_ret2
      exact ⟨by rw [E1.out, E2.out]; rfl, rfl⟩
    · clear hc
      go_enter Try.func17, Try.ntmps17
      go_wp2_with (first | (go_at_call 45; refine (isChance_any _ _).mono ?_; rintro en w1 ⟨rfl, rfl⟩) | (go_at_call 46; refine (iFrac_any _ _ _).mono ?_; rintro en w1 ⟨rfl, rfl⟩) | (go_at_call 42; refine (iPower_any _ _ (by omega)).mono ?_; rintro en w1 ⟨rfl, rfl⟩))
      go_ret2
      exact ⟨by rw [E1.out, E2.out]; rfl, rfl⟩
  · obtain ⟨a0, a1, d0, d1, n0, n1⟩ := ltOk_bd hok
    have hg1 : inR a 0 16 = true := inR_iff.2 ⟨a0, a1⟩
    have hg2 : (inR den 1 1000 && inR num 0 den) = true := by rw [inR_iff.2 ⟨d0, d1⟩, inR_iff.2 ⟨n0, n1⟩]; rfl
    have HOK := Lib.hid hok
    clear hok
    go_enter Try.func17, Try.ntmps17
    go_wp2_with (first | (go_at_call 45; refine (isChance_any _ _).mono ?_; rintro en w1 ⟨rfl, rfl⟩) | (go_at_call 46; refine (iFrac_any _ _ _).mono ?_; rintro en w1 ⟨rfl, rfl⟩) | (go_at_call 42; refine (iPower_any _ _ (by omega)).mono ?_; rintro en w1 ⟨rfl, rfl⟩))
    go_loop [8, 19] (fun o k => ∃ j : Nat, j ≤ 13 ∧ k = .int .i64 (j : Int) ∧ o = .int .i64 (q16 a j) ∧ Hid (∀ i, i < j → ltTest a num den i = false)) (fun _ k => 13 - (intOf k).toNat)
    case atStart => exact ⟨0, Nat.zero_le _, rfl, rfl, fun i hi => absurd hi (Nat.not_lt_zero _)⟩
    case round =>
      obtain ⟨j, hj, rfl, rfl, HL⟩ := hrel
      by_cases hlt : j < 13
      · have hb := p16_le j (by omega)
        have hb0 := p16_pos j
        obtain ⟨q0, q1⟩ := q16_bd a j a0 a1
        have m1 := mulD (x := p16 j - q16 a j) (M := 281474976710656) (d := den) (D := 1000) (by omega) (by omega) (by omega) d1
        have m2 := mulD (x := num) (M := 1000) (d := p16 j) (D := 281474976710656) n0 (by omega) (by omega) hb
        have m3 := mulD (x := q16 a j) (M := 281474976710656) (d := 16 - a) (D := 16) q0 (by omega) (by omega) (by omega)
        rcases Bool.eq_false_or_eq_true (ltTest a num den j) with ht | ht
        · obtain ⟨e1, e2⟩ := lt_hit HOK.out hlt HL.out ht
          have E1 := Lib.hid e1; have E2 := Lib.hid e2; clear e1 e2
          have h2 := test_iff.1 ht
          clear ht
          go_wp2_with (first | (go_at_call 45; refine (isChance_any _ _).mono ?_; rintro en w1 ⟨rfl, rfl⟩) | (go_at_call 46; refine (iFrac_any _ _ _).mono ?_; rintro en w1 ⟨rfl, rfl⟩) | (go_at_call 42; refine (iPower_any _ _ (by omega)).mono ?_; rintro en w1 ⟨rfl, rfl⟩))
          go_ret2
          exact ⟨by rw [E1.out, E2.out]; rfl, rfl⟩
        · have HL2 := Lib.hid (below_succ HL.out ht)
          have h2 := test_not.1 ht
          clear ht
          go_wp2_with (first | (go_at_call 45; refine (isChance_any _ _).mono ?_; rintro en w1 ⟨rfl, rfl⟩) | (go_at_call 46; refine (iFrac_any _ _ _).mono ?_; rintro en w1 ⟨rfl, rfl⟩) | (go_at_call 42; refine (iPower_any _ _ (by omega)).mono ?_; rintro en w1 ⟨rfl, rfl⟩))
          go_round
          case rel => exact ⟨j + 1, by omega, by go_num, by simp [q16], HL2⟩
          case measure => simp [intOf]; omega
      · obtain rfl : j = 13 := by omega
        obtain ⟨e1, e2⟩ := lt_miss HOK.out HL.out
        have E1 := Lib.hid e1; have E2 := Lib.hid e2; clear e1 e2
        go_wp2_with (first | (go_at_call 45; refine (isChance_any _ _).mono ?_; rintro en w1 ⟨rfl, rfl⟩) | (go_at_call 46; refine (iFrac_any _ _ _).mono ?_; rintro en w1 ⟨rfl, rfl⟩) | (go_at_call 42; refine (iPower_any _ _ (by omega)).mono ?_; rintro en w1 ⟨rfl, rfl⟩))
        go_ret2
        exact ⟨by rw [E1.out, E2.out]; rfl, rfl⟩

theorem sTail1_any (n : Nat) (a : Int) (w : World) (hn : n ≤ 12) (h0 : 0 ≤ a) (h1 : a ≤ 16) :
    Calls Try.prog 44 #[.int .i64 n, .int .i64 a, .int .i64 1] w fun en w9 => en = .returned (.int .i64 (tail n a 1)) ∧ w = w9 :=
  sTail_any n 1 a w hn h0 h1 (by omega)
set_option maxHeartbeats 2000000 in
theorem sTrials_any (a num den : Int) (w : World) :
    Calls Try.prog 16 #[.int .i64 a, .int .i64 num, .int .i64 den] w fun en w9 => en = .returned (.tuple #[.int .i64 (ltVal a num den), .int .i64 (ltCode a num den)]) ∧ w = w9 := by
  cases hok : ltOk a num den
  · obtain ⟨e1, e2⟩ := lt_bad hok
    have E1 := Lib.hid e1; have E2 := Lib.hid e2; clear e1 e2
    have hc : inR a 0 16 = true → (inR den 1 1000 && inR num 0 den) = false := fun h => by simpa [ltOk, h] using hok
    clear hok
    rcases Bool.eq_false_or_eq_true (inR a 0 16) with h1 | h1
    · have h2 := hc h1
      have h3 : (inR 0 0 12 && inR a 0 16) = true := by rw [h1]; rfl
      clear hc h1
      go_enter Try.func16, Try.ntmps16
      go_wp2_with (first | (go_at_call 39; refine (sScans_any _ _ _).mono ?_; rintro en w1 ⟨rfl, rfl⟩) | (go_at_call 43; refine (sFrac_any _ _ _).mono ?_; rintro en w1 ⟨rfl, rfl⟩) | (go_at_call 40; refine (sPower_any _ _ (by omega)).mono ?_; rintro en w1 ⟨rfl, rfl⟩) | (go_at_call 44; refine (sTail1_any _ _ _ (by omega) (by omega) (by omega)).mono ?_; rintro en w1 ⟨rfl, rfl⟩))
      go_ret2
      exact ⟨by rw [E1.out, E2.out]; rfl, rfl⟩
    · have h3 : (inR 0 0 12 && inR a 0 16) = false := by rw [h1]; rfl
      clear hc h1
      go_enter Try.func16, Try.ntmps16
      go_wp2_with (first | (go_at_call 39; refine (sScans_any _ _ _).mono ?_; rintro en w1 ⟨rfl, rfl⟩) | (go_at_call 43; refine (sFrac_any _ _ _).mono ?_; rintro en w1 ⟨rfl, rfl⟩) | (go_at_call 40; refine (sPower_any _ _ (by omega)).mono ?_; rintro en w1 ⟨rfl, rfl⟩) | (go_at_call 44; refine (sTail1_any _ _ _ (by omega) (by omega) (by omega)).mono ?_; rintro en w1 ⟨rfl, rfl⟩))
      go_ret2
      exact ⟨by rw [E1.out, E2.out]; rfl, rfl⟩
  · obtain ⟨a0, a1, d0, d1, n0, n1⟩ := ltOk_bd hok
    have hg1 : (inR 0 0 12 && inR a 0 16) = true := by rw [inR_iff.2 ⟨a0, a1⟩]; rfl
    have hg2 : (inR den 1 1000 && inR num 0 den) = true := by rw [inR_iff.2 ⟨d0, d1⟩, inR_iff.2 ⟨n0, n1⟩]; rfl
    have HOK := Lib.hid hok
    clear hok
    go_enter Try.func16, Try.ntmps16
    go_wp2_with (first | (go_at_call 39; refine (sScans_any _ _ _).mono ?_; rintro en w1 ⟨rfl, rfl⟩) | (go_at_call 43; refine (sFrac_any _ _ _).mono ?_; rintro en w1 ⟨rfl, rfl⟩) | (go_at_call 40; refine (sPower_any _ _ (by omega)).mono ?_; rintro en w1 ⟨rfl, rfl⟩) | (go_at_call 44; refine (sTail1_any _ _ _ (by omega) (by omega) (by omega)).mono ?_; rintro en w1 ⟨rfl, rfl⟩))
    go_loop [8] (fun k => ∃ j : Nat, j ≤ 13 ∧ k = .int .i64 (j : Int) ∧ Hid (∀ i, i < j → ltTest a num den i = false)) (fun k => 13 - (intOf k).toNat)
    case atStart => exact ⟨0, Nat.zero_le _, rfl, fun i hi => absurd hi (Nat.not_lt_zero _)⟩
    case round =>
      obtain ⟨j, hj, rfl, HL⟩ := hrel
      by_cases hlt : j < 13
      · have hle : (j : Int) ≤ 12 := by omega
        have hb := p16_le j (by omega)
        have hb0 := p16_pos j
        obtain ⟨q0, q1⟩ := tail_bd j a a0 a1 1
        have m1 := mulD (x := tail j a 1) (M := 281474976710656) (d := den) (D := 1000) q0 (by omega) (by omega) d1
        have m2 := mulD (x := num) (M := 1000) (d := p16 j) (D := 281474976710656) n0 (by omega) (by omega) hb
        rcases Bool.eq_false_or_eq_true (ltTest a num den j) with ht | ht
        · obtain ⟨e1, e2⟩ := lt_hit HOK.out hlt HL.out ht
          have E1 := Lib.hid e1; have E2 := Lib.hid e2; clear e1 e2
          have h2 : num * p16 j ≤ tail j a 1 * den := by unfold ltTest at ht; exact of_decide_eq_true ht
          clear ht
          go_wp2_with (first | (go_at_call 39; refine (sScans_any _ _ _).mono ?_; rintro en w1 ⟨rfl, rfl⟩) | (go_at_call 43; refine (sFrac_any _ _ _).mono ?_; rintro en w1 ⟨rfl, rfl⟩) | (go_at_call 40; refine (sPower_any _ _ (by omega)).mono ?_; rintro en w1 ⟨rfl, rfl⟩) | (go_at_call 44; refine (sTail1_any _ _ _ (by omega) (by omega) (by omega)).mono ?_; rintro en w1 ⟨rfl, rfl⟩))
          go_ret2
          exact ⟨by rw [E1.out, E2.out]; rfl, rfl⟩
        · have HL2 := Lib.hid (below_succ HL.out ht)
          have h2 : tail j a 1 * den < num * p16 j := by unfold ltTest at ht; have := of_decide_eq_false ht; omega
          clear ht
          go_wp2_with (first | (go_at_call 39; refine (sScans_any _ _ _).mono ?_; rintro en w1 ⟨rfl, rfl⟩) | (go_at_call 43; refine (sFrac_any _ _ _).mono ?_; rintro en w1 ⟨rfl, rfl⟩) | (go_at_call 40; refine (sPower_any _ _ (by omega)).mono ?_; rintro en w1 ⟨rfl, rfl⟩) | (go_at_call 44; refine (sTail1_any _ _ _ (by omega) (by omega) (by omega)).mono ?_; rintro en w1 ⟨rfl, rfl⟩))
          go_round
          case rel => exact ⟨j + 1, by omega, by go_num, HL2⟩
          case measure => simp [intOf]; omega
      · obtain rfl : j = 13 := by omega
        obtain ⟨e1, e2⟩ := lt_miss HOK.out HL.out
        have E1 := Lib.hid e1; have E2 := Lib.hid e2; clear e1 e2
        go_wp2_with (first | (go_at_call 39; refine (sScans_any _ _ _).mono ?_; rintro en w1 ⟨rfl, rfl⟩) | (go_at_call 43; refine (sFrac_any _ _ _).mono ?_; rintro en w1 ⟨rfl, rfl⟩) | (go_at_call 40; refine (sPower_any _ _ (by omega)).mono ?_; rintro en w1 ⟨rfl, rfl⟩) | (go_at_call 44; refine (sTail1_any _ _ _ (by omega) (by omega) (by omega)).mono ?_; rintro en w1 ⟨rfl, rfl⟩))
        go_ret2
        exact ⟨by rw [E1.out, E2.out]; rfl, rfl⟩
set_option maxHeartbeats 1000000 in
/-- the Go function laws.FnExactLeastTrials -/
theorem lawLeastTrials_any (a num den : Int) (w : World) :
    Calls Try.prog 4 #[.int .i64 a, .int .i64 num, .int .i64 den] w fun en w9 => en = .returned (.bool true) ∧ Below w.heap.size w w9 := by
  go_enter Try.func4, Try.ntmps4
  go_wp2_with (first | (go_at_call 16; refine (sTrials_any _ _ _ _).mono ?_; rintro en w1 ⟨rfl, rfl⟩) | (go_at_call 17; refine (iTrials_any _ _ _ _).mono ?_; rintro en w1 ⟨rfl, rfl⟩))
  go_ret
  exact ⟨rfl, Below.refl _ _⟩
end Go.Proofs.Ytoaldcibmcmfdaa
