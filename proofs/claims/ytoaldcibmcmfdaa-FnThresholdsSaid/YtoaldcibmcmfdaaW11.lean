/- walks: LeastThreshold -/
import Derived.Test.YtoaldcibmcmfdaaW10
import Derived.Test.YtoaldcibmcmfdaaW4
set_option linter.unusedVariables false
set_option linter.unusedSimpArgs false
namespace Go.Proofs.Ytoaldcibmcmfdaa
open Go.RowKit

def lhOk (n a num den : Int) : Bool := inR n 0 12 && inR a 0 16 && (inR den 1 1000 && inR num 0 den)
def lhTest (n : Nat) (a num den : Int) (m : Nat) : Bool := decide (tail n a m * den ≤ num * p16 n)
def lhFind (n : Nat) (a num den : Int) : Nat := (leastN (lhTest n a num den) (n + 2) 0).getD 0
def lhVal (n a num den : Int) : Int := if lhOk n a num den then (lhFind n.toNat a num den : Int) else 0
def lhCode (n a num den : Int) : Int := if lhOk n a num den then 0 else 2
theorem lh_bad {n a num den : Int} (h : lhOk n a num den = false) : Hid (lhVal n a num den = 0 ∧ lhCode n a num den = 2) := by show _ ∧ _; simp [lhVal, lhCode, h]
theorem lh_hit {n k : Nat} {a num den : Int} (h : Hid (lhOk n a num den = true)) (hk : k ≤ n + 1) (hl : ∀ i, i < k → lhTest n a num den i = false) (ht : lhTest n a num den k = true) : Hid (lhVal n a num den = k ∧ lhCode n a num den = 0) := by
  have e := leastN_at (lhTest n a num den) (n + 2) 0 k (fun i _ hi => hl i hi) ht (Nat.zero_le _) (by omega)
  show _ ∧ _
  simp [lhVal, lhCode, h.out, lhFind, e]
theorem lh_end (n : Nat) {a num den : Int} (h0 : 0 ≤ num) : lhTest n a num den (n + 1) = true := by
  unfold lhTest; rw [tail_end n a (n + 1) (by omega)]; have := p16_pos n
  have := Int.mul_nonneg h0 (show 0 ≤ p16 n by omega)
  simpa using this
theorem lh_parts (n a num den : Int) : (inR n 0 12 = false ∧ lhOk n a num den = false) ∨ (inR n 0 12 = true ∧ inR a 0 16 = false ∧ lhOk n a num den = false) ∨ (inR n 0 12 = true ∧ inR a 0 16 = true ∧ (inR den 1 1000 && inR num 0 den) = false ∧ lhOk n a num den = false) ∨
    (∃ j : Nat, n = j ∧ j ≤ 12 ∧ 0 ≤ a ∧ a ≤ 16 ∧ 1 ≤ den ∧ den ≤ 1000 ∧ 0 ≤ num ∧ num ≤ den ∧ inR n 0 12 = true ∧ inR a 0 16 = true ∧ (inR den 1 1000 && inR num 0 den) = true ∧ Hid (lhOk n a num den = true)) := by
  cases h1 : inR n 0 12
  · exact .inl ⟨rfl, by simp [lhOk, h1]⟩
  · cases h2 : inR a 0 16
    · exact .inr (.inl ⟨rfl, rfl, by simp [lhOk, h2]⟩)
    · cases h3 : (inR den 1 1000 && inR num 0 den)
      · exact .inr (.inr (.inl ⟨rfl, rfl, rfl, by unfold lhOk; rw [h3, Bool.and_false]⟩))
      · have g1 := inR_iff.1 h1; have g2 := inR_iff.1 h2
        have g3 : inR den 1 1000 = true ∧ inR num 0 den = true := by simpa using h3
        have g4 := inR_iff.1 g3.1; have g5 := inR_iff.1 g3.2
        exact .inr (.inr (.inr ⟨n.toNat, by omega, by omega, g2.1, g2.2, g4.1, g4.2, g5.1, g5.2, rfl, rfl, rfl, by show _ = _; unfold lhOk; rw [h1, h2, h3]; rfl⟩))
set_option maxHeartbeats 4000000 in
theorem iLH_any (n a num den : Int) (w : World) :
    Calls Try.prog 29 #[.int .i64 n, .int .i64 a, .int .i64 num, .int .i64 den] w fun en w9 => en = .returned (.tuple #[.int .i64 (lhVal n a num den), .int .i64 (lhCode n a num den)]) ∧ Below w.heap.size w w9 := by
  rcases lh_parts n a num den with ⟨h1, hb⟩ | ⟨h1, h2, hb⟩ | ⟨h1, h2, h3, hb⟩ | ⟨j, rfl, hj, h0, h16, d0, d1, n0, n1, h1, h2, h3, HOK⟩
  · have HV := lh_bad hb
    clear hb
    go_enter Try.func29, Try.ntmps29
    go_wp2_with (first | (go_at_call 41; refine (isTrials_any _ _).mono ?_; rintro en w1 ⟨rfl, rfl⟩) | (go_at_call 45; refine (isChance_any _ _).mono ?_; rintro en w1 ⟨rfl, rfl⟩) | (go_at_call 46; refine (iFrac_any _ _ _).mono ?_; rintro en w1 ⟨rfl, rfl⟩))
    go_ret2
    exact ⟨by rw [HV.out.1, HV.out.2]; rfl, Below.refl _ _⟩
  · have HV := lh_bad hb
    clear hb
    go_enter Try.func29, Try.ntmps29
    go_wp2_with (first | (go_at_call 41; refine (isTrials_any _ _).mono ?_; rintro en w1 ⟨rfl, rfl⟩) | (go_at_call 45; refine (isChance_any _ _).mono ?_; rintro en w1 ⟨rfl, rfl⟩) | (go_at_call 46; refine (iFrac_any _ _ _).mono ?_; rintro en w1 ⟨rfl, rfl⟩))
    go_ret2
    exact ⟨by rw [HV.out.1, HV.out.2]; rfl, Below.refl _ _⟩
  · have HV := lh_bad hb
    clear hb
    go_enter Try.func29, Try.ntmps29
    go_wp2_with (first | (go_at_call 41; refine (isTrials_any _ _).mono ?_; rintro en w1 ⟨rfl, rfl⟩) | (go_at_call 45; refine (isChance_any _ _).mono ?_; rintro en w1 ⟨rfl, rfl⟩) | (go_at_call 46; refine (iFrac_any _ _ _).mono ?_; rintro en w1 ⟨rfl, rfl⟩))
    go_ret2
    exact ⟨by rw [HV.out.1, HV.out.2]; rfl, Below.refl _ _⟩
  · go_enter Try.func29, Try.ntmps29
    go_wp2_with (first | (go_at_call 41; refine (isTrials_any _ _).mono ?_; rintro en w1 ⟨rfl, rfl⟩) | (go_at_call 45; refine (isChance_any _ _).mono ?_; rintro en w1 ⟨rfl, rfl⟩) | (go_at_call 46; refine (iFrac_any _ _ _).mono ?_; rintro en w1 ⟨rfl, rfl⟩))
    refine (tails_any j a _ hj h0 h16).mono ?_
    rintro en w1 ⟨g, rfl, hc, hb⟩
    have HC := Lib.hid hc; clear hc
    go_wp2
    go_loopw [10] (fun i wr => ∃ k q : Nat, k ≤ j + 1 ∧ i = .int .i64 (k : Int) ∧ Hid (∀ i, i < k → lhTest j a num den i = false) ∧ wr = w1.drewN q) (fun i _ => j + 2 - (intOf i).toNat)
    case atStart => exact ⟨0, 0, Nat.zero_le _, rfl, fun i hi => absurd hi (Nat.not_lt_zero _), rfl⟩
    case round =>
      obtain ⟨k, q, hk, rfl, HL, hwr⟩ := hrel
      have HW := Lib.hid hwr; clear hwr
      have hck := HC.out.1 k (by rw [tls_len]; omega)
      rw [tls_at (by omega), if_neg (by omega), Nat.zero_add] at hck
      replace hck : wr.cell? ⟨g, k, none⟩ = some (.int .i64 (tail j a k)) := by rw [HW.out]; exact hck
      have hb1 := tail_bd j a h0 h16 k
      have hp := p16_le j hj
      have hp0 := p16_pos j
      have m1 := mulD (x := tail j a k) (M := 281474976710656) (d := den) (D := 1000) hb1.1 (by omega) (by omega) d1
      have m2 := mulD (x := num) (M := 1000) (d := p16 j) (D := 281474976710656) n0 (by omega) (by omega) hp
      have HE := Lib.hid (lh_end j (a := a) (num := num) (den := den) n0)
      have hi0 : (0 : Int) ≤ k := by omega
      have hi1 : (k : Int) < j + 2 := by omega
      have hw1 : IntKind.i64.wrap (tail j a k * den) = tail j a k * den := IntWalk.i64_in _ (by omega)
      have hw2 : IntKind.i64.wrap (num * p16 j) = num * p16 j := IntWalk.i64_in _ (by omega)
      rcases Bool.eq_false_or_eq_true (lhTest j a num den k) with ht | ht
      · have HV := lh_hit HOK hk HL.out ht
        have h4 : tail j a k * den ≤ num * p16 j := by unfold lhTest at ht; exact of_decide_eq_true ht
        clear ht HE
        go_wp2
        go_quiet ((go_at_call 42; exact Calls.quiet_of_same ((iPower_any _ _ hj).mono fun _ _ h => ⟨h.1, h.2.symm⟩)))
        go_wp2
        go_ret2
        exact ⟨by rw [HV.out.1, HV.out.2]; rfl, by rw [HW.out]; exact below_drewN (below_drewN hb _) _⟩
      · have HL2 := Lib.hid (below_succ HL.out ht)
        have hk2 : k + 1 ≤ j + 1 := by
          rcases Nat.lt_or_ge k (j + 1) with h | h
          · omega
          · have : k = j + 1 := by omega
            rw [this, HE.out] at ht; cases ht
        have h4 : num * p16 j < tail j a k * den := by unfold lhTest at ht; have := of_decide_eq_false ht; omega
        clear ht HE
        go_wp2
        go_quiet ((go_at_call 42; exact Calls.quiet_of_same ((iPower_any _ _ hj).mono fun _ _ h => ⟨h.1, h.2.symm⟩)))
        go_wp2
        go_roundw
        case rel => exact ⟨k + 1, q + nq, hk2, by go_num, HL2, by rw [HW.out]; exact World.drewN_drewN _ _ _⟩
        case measure => simp [intOf]; omega
set_option maxHeartbeats 4000000 in
theorem sLH_any (n a num den : Int) (w : World) :
    Calls Try.prog 28 #[.int .i64 n, .int .i64 a, .int .i64 num, .int .i64 den] w fun en w9 => en = .returned (.tuple #[.int .i64 (lhVal n a num den), .int .i64 (lhCode n a num den)]) ∧ w = w9 := by
  rcases lh_parts n a num den with ⟨h1, hb⟩ | ⟨h1, h2, hb⟩ | ⟨h1, h2, h3, hb⟩ | ⟨j, rfl, hj, h0, h16, d0, d1, n0, n1, h1, h2, h3, HOK⟩
  · have HV := lh_bad hb
    have g : (inR n 0 12 && inR a 0 16) = false := by rw [h1]; rfl
    clear hb
    go_enter Try.func28, Try.ntmps28
    go_wp2_with (first | (go_at_call 39; refine (sScans_any _ _ _).mono ?_; rintro en w1 ⟨rfl, rfl⟩) | (go_at_call 43; refine (sFrac_any _ _ _).mono ?_; rintro en w1 ⟨rfl, rfl⟩))
    go_ret2
    exact ⟨by rw [HV.out.1, HV.out.2]; rfl, rfl⟩
  · have HV := lh_bad hb
    have g : (inR n 0 12 && inR a 0 16) = false := by rw [h1, h2]; rfl
    clear hb
    go_enter Try.func28, Try.ntmps28
    go_wp2_with (first | (go_at_call 39; refine (sScans_any _ _ _).mono ?_; rintro en w1 ⟨rfl, rfl⟩) | (go_at_call 43; refine (sFrac_any _ _ _).mono ?_; rintro en w1 ⟨rfl, rfl⟩))
    go_ret2
    exact ⟨by rw [HV.out.1, HV.out.2]; rfl, rfl⟩
  · have HV := lh_bad hb
    have g : (inR n 0 12 && inR a 0 16) = true := by rw [h1, h2]; rfl
    clear hb
    go_enter Try.func28, Try.ntmps28
    go_wp2_with (first | (go_at_call 39; refine (sScans_any _ _ _).mono ?_; rintro en w1 ⟨rfl, rfl⟩) | (go_at_call 43; refine (sFrac_any _ _ _).mono ?_; rintro en w1 ⟨rfl, rfl⟩))
    go_ret2
    exact ⟨by rw [HV.out.1, HV.out.2]; rfl, rfl⟩
  · have g : (inR (j : Int) 0 12 && inR a 0 16) = true := by rw [h1, h2]; rfl
    go_enter Try.func28, Try.ntmps28
    go_wp2_with (first | (go_at_call 39; refine (sScans_any _ _ _).mono ?_; rintro en w1 ⟨rfl, rfl⟩) | (go_at_call 43; refine (sFrac_any _ _ _).mono ?_; rintro en w1 ⟨rfl, rfl⟩))
    go_loop [10] (fun i => ∃ k : Nat, k ≤ j + 1 ∧ i = .int .i64 (k : Int) ∧ Hid (∀ i, i < k → lhTest j a num den i = false)) (fun i => j + 2 - (intOf i).toNat)
    case atStart => exact ⟨0, Nat.zero_le _, rfl, fun i hi => absurd hi (Nat.not_lt_zero _)⟩
    case round =>
      obtain ⟨k, hk, rfl, HL⟩ := hrel
      have hb1 := tail_bd j a h0 h16 k
      have hp := p16_le j hj
      have hp0 := p16_pos j
      have m1 := mulD (x := tail j a k) (M := 281474976710656) (d := den) (D := 1000) hb1.1 (by omega) (by omega) d1
      have m2 := mulD (x := num) (M := 1000) (d := p16 j) (D := 281474976710656) n0 (by omega) (by omega) hp
      have HE := Lib.hid (lh_end j (a := a) (num := num) (den := den) n0)
      rcases Bool.eq_false_or_eq_true (lhTest j a num den k) with ht | ht
      · have HV := lh_hit HOK hk HL.out ht
        have h4 : tail j a k * den ≤ num * p16 j := by unfold lhTest at ht; exact of_decide_eq_true ht
        clear ht HE
        go_wp2_with (first | (go_at_call 44; refine (sTail_any j k a _ hj h0 h16 hk).mono ?_; rintro en w1 ⟨rfl, rfl⟩) | (go_at_call 40; refine (sPower_any j _ hj).mono ?_; rintro en w1 ⟨rfl, rfl⟩))
        go_ret2
        exact ⟨by rw [HV.out.1, HV.out.2]; rfl, rfl⟩
      · have HL2 := Lib.hid (below_succ HL.out ht)
        have hk2 : k + 1 ≤ j + 1 := by
          rcases Nat.lt_or_ge k (j + 1) with h | h
          · omega
          · have : k = j + 1 := by omega
            rw [this, HE.out] at ht; cases ht
        have h4 : num * p16 j < tail j a k * den := by unfold lhTest at ht; have := of_decide_eq_false ht; omega
        clear ht HE
        go_wp2_with (first | (go_at_call 44; refine (sTail_any j k a _ hj h0 h16 hk).mono ?_; rintro en w1 ⟨rfl, rfl⟩) | (go_at_call 40; refine (sPower_any j _ hj).mono ?_; rintro en w1 ⟨rfl, rfl⟩))
        go_round
        case rel => exact ⟨k + 1, hk2, by go_num, HL2⟩
        case measure => simp [intOf]; omega
theorem lawLH_any (n a num den : Int) (w : World) : Calls Try.prog 9 #[.int .i64 n, .int .i64 a, .int .i64 num, .int .i64 den] w fun en w9 => en = .returned (.bool true) ∧ Below w.heap.size w w9 := by
  go_enter Try.func9, Try.ntmps9
  go_wp2_with fail
  refine (sLH_any n a num den _).mono ?_
  rintro en w1 ⟨rfl, rfl⟩
  go_wp2_with fail
  refine (iLH_any n a num den _).mono ?_
  rintro en w1 ⟨rfl, hb⟩
  go_wp2
  go_ret
  exact ⟨rfl, hb⟩
end Go.Proofs.Ytoaldcibmcmfdaa
