/- walks: TailCount -/
import Derived.Test.YtoaldcibmcmfdaaW9
import Derived.Test.YtoaldcibmcmfdaaW3
set_option linter.unusedVariables false
set_option linter.unusedSimpArgs false
namespace Go.Proofs.Ytoaldcibmcmfdaa
open Go.RowKit

def tcOk (n a m : Int) : Bool := inR n 0 12 && inR a 0 16 && inR m 0 (n + 1)
def tcVal (n a m : Int) : Int := if tcOk n a m then tail n.toNat a m.toNat else 0
def tcCode (n a m : Int) : Int := if tcOk n a m then 0 else 2
theorem tc_bad {n a m : Int} (h : tcOk n a m = false) : Hid (tcVal n a m = 0 ∧ tcCode n a m = 2) := by show _ ∧ _; simp [tcVal, tcCode, h]
theorem tc_good {n m : Nat} {a : Int} (h : tcOk n a m = true) : Hid (tcVal n a m = tail n a m ∧ tcCode n a m = 0) := by show _ ∧ _; simp [tcVal, tcCode, h]
theorem tc_parts (n a m : Int) : (inR n 0 12 = false) ∨ (inR n 0 12 = true ∧ inR a 0 16 = false) ∨ (inR n 0 12 = true ∧ inR a 0 16 = true ∧ inR m 0 (n + 1) = false) ∨ (∃ j k : Nat, n = j ∧ m = k ∧ j ≤ 12 ∧ k ≤ j + 1 ∧ 0 ≤ a ∧ a ≤ 16 ∧ inR n 0 12 = true ∧ inR a 0 16 = true ∧ inR m 0 (n + 1) = true) := by
  cases h1 : inR n 0 12
  · exact .inl rfl
  · cases h2 : inR a 0 16
    · exact .inr (.inl ⟨rfl, rfl⟩)
    · cases h3 : inR m 0 (n + 1)
      · exact .inr (.inr (.inl ⟨rfl, rfl, rfl⟩))
      · have g1 := inR_iff.1 h1; have g2 := inR_iff.1 h2; have g3 := inR_iff.1 h3
        exact .inr (.inr (.inr ⟨n.toNat, m.toNat, by omega, by omega, by omega, by omega, g2.1, g2.2, rfl, rfl, rfl⟩))
set_option maxHeartbeats 2000000 in
theorem iTC_any (n a m : Int) (w : World) :
    Calls Try.prog 19 #[.int .i64 n, .int .i64 a, .int .i64 m] w fun en w9 => en = .returned (.tuple #[.int .i64 (tcVal n a m), .int .i64 (tcCode n a m)]) ∧ Below w.heap.size w w9 := by
  rcases tc_parts n a m with h1 | ⟨h1, h2⟩ | ⟨h1, h2, h3⟩ | ⟨j, k, rfl, rfl, hj, hk, h0, h16, h1, h2, h3⟩
  · have HV := tc_bad (n := n) (a := a) (m := m) (by simp [tcOk, h1])
    go_enter Try.func19, Try.ntmps19
    go_wp2_with (first | (go_at_call 41; refine (isTrials_any _ _).mono ?_; rintro en w1 ⟨rfl, rfl⟩) | (go_at_call 45; refine (isChance_any _ _).mono ?_; rintro en w1 ⟨rfl, rfl⟩) | (go_at_call 48; refine (within_any _ _ _ _).mono ?_; rintro en w1 ⟨rfl, rfl⟩))
    go_ret2
    exact ⟨by rw [HV.out.1, HV.out.2]; rfl, Below.refl _ _⟩
  · have HV := tc_bad (n := n) (a := a) (m := m) (by simp [tcOk, h2])
    go_enter Try.func19, Try.ntmps19
    go_wp2_with (first | (go_at_call 41; refine (isTrials_any _ _).mono ?_; rintro en w1 ⟨rfl, rfl⟩) | (go_at_call 45; refine (isChance_any _ _).mono ?_; rintro en w1 ⟨rfl, rfl⟩) | (go_at_call 48; refine (within_any _ _ _ _).mono ?_; rintro en w1 ⟨rfl, rfl⟩))
    go_ret2
    exact ⟨by rw [HV.out.1, HV.out.2]; rfl, Below.refl _ _⟩
  · have HV := tc_bad (n := n) (a := a) (m := m) (by simp [tcOk, h3])
    have hn := inR_iff.1 h1
    have hw : wrap64 (n + 1) = n + 1 := IntWalk.wrap64_in _ (by omega)
    go_enter Try.func19, Try.ntmps19
    go_wp2_with (first | (go_at_call 41; refine (isTrials_any _ _).mono ?_; rintro en w1 ⟨rfl, rfl⟩) | (go_at_call 45; refine (isChance_any _ _).mono ?_; rintro en w1 ⟨rfl, rfl⟩) | (go_at_call 48; refine (within_any _ _ _ _).mono ?_; rintro en w1 ⟨rfl, rfl⟩))
    go_ret2
    exact ⟨by rw [HV.out.1, HV.out.2]; rfl, Below.refl _ _⟩
  · have HV := tc_good (n := j) (a := a) (m := k) (by simp [tcOk, h1, h2, h3])
    go_enter Try.func19, Try.ntmps19
    go_wp2_with (first | (go_at_call 41; refine (isTrials_any _ _).mono ?_; rintro en w1 ⟨rfl, rfl⟩) | (go_at_call 45; refine (isChance_any _ _).mono ?_; rintro en w1 ⟨rfl, rfl⟩) | (go_at_call 48; refine (within_any _ _ _ _).mono ?_; rintro en w1 ⟨rfl, rfl⟩))
    refine (tails_any j a _ hj h0 h16).mono ?_
    rintro en w1 ⟨g, rfl, hc, hb⟩
    have hck := hc.1 k (by rw [tls_len]; omega)
    rw [tls_at (by omega), if_neg (by omega), Nat.zero_add] at hck
    have hi0 : (0 : Int) ≤ k := by omega
    have hi1 : (k : Int) < j + 2 := by omega
    clear hc
    go_wp2
    go_ret2
    exact ⟨by rw [HV.out.1, HV.out.2]; rfl, hb⟩
set_option maxHeartbeats 2000000 in
theorem sTC_any (n a m : Int) (w : World) :
    Calls Try.prog 18 #[.int .i64 n, .int .i64 a, .int .i64 m] w fun en w9 => en = .returned (.tuple #[.int .i64 (tcVal n a m), .int .i64 (tcCode n a m)]) ∧ w = w9 := by
  rcases tc_parts n a m with h1 | ⟨h1, h2⟩ | ⟨h1, h2, h3⟩ | ⟨j, k, rfl, rfl, hj, hk, h0, h16, h1, h2, h3⟩
  · have HV := tc_bad (n := n) (a := a) (m := m) (by simp [tcOk, h1])
    have g : (inR n 0 12 && inR a 0 16) = false := by rw [h1]; rfl
    go_enter Try.func18, Try.ntmps18
    go_wp2_with (first | (go_at_call 39; refine (sScans_any _ _ _).mono ?_; rintro en w1 ⟨rfl, rfl⟩) | (go_at_call 47; refine (l01In_any _ _ _ _).mono ?_; rintro en w1 ⟨rfl, rfl⟩))
    go_ret2
    exact ⟨by rw [HV.out.1, HV.out.2]; rfl, rfl⟩
  · have HV := tc_bad (n := n) (a := a) (m := m) (by simp [tcOk, h2])
    have g : (inR n 0 12 && inR a 0 16) = false := by rw [h1, h2]; rfl
    go_enter Try.func18, Try.ntmps18
    go_wp2_with (first | (go_at_call 39; refine (sScans_any _ _ _).mono ?_; rintro en w1 ⟨rfl, rfl⟩) | (go_at_call 47; refine (l01In_any _ _ _ _).mono ?_; rintro en w1 ⟨rfl, rfl⟩))
    go_ret2
    exact ⟨by rw [HV.out.1, HV.out.2]; rfl, rfl⟩
  · have HV := tc_bad (n := n) (a := a) (m := m) (by simp [tcOk, h3])
    have g : (inR n 0 12 && inR a 0 16) = true := by rw [h1, h2]; rfl
    have hn := inR_iff.1 h1
    have hw : wrap64 (n + 1) = n + 1 := IntWalk.wrap64_in _ (by omega)
    go_enter Try.func18, Try.ntmps18
    go_wp2_with (first | (go_at_call 39; refine (sScans_any _ _ _).mono ?_; rintro en w1 ⟨rfl, rfl⟩) | (go_at_call 47; refine (l01In_any _ _ _ _).mono ?_; rintro en w1 ⟨rfl, rfl⟩))
    go_ret2
    exact ⟨by rw [HV.out.1, HV.out.2]; rfl, rfl⟩
  · have HV := tc_good (n := j) (a := a) (m := k) (by simp [tcOk, h1, h2, h3])
    have g : (inR (j : Int) 0 12 && inR a 0 16) = true := by rw [h1, h2]; rfl
    go_enter Try.func18, Try.ntmps18
    go_wp2_with (first | (go_at_call 39; refine (sScans_any _ _ _).mono ?_; rintro en w1 ⟨rfl, rfl⟩) | (go_at_call 47; refine (l01In_any _ _ _ _).mono ?_; rintro en w1 ⟨rfl, rfl⟩))
    refine (sTail_any j k a _ hj h0 h16 hk).mono ?_
    rintro en w1 ⟨rfl, rfl⟩
    go_wp2
    go_ret2
    exact ⟨by rw [HV.out.1, HV.out.2]; rfl, rfl⟩
theorem lawTC_any (n a m : Int) (w : World) : Calls Try.prog 5 #[.int .i64 n, .int .i64 a, .int .i64 m] w fun en w9 => en = .returned (.bool true) ∧ Below w.heap.size w w9 := by
  go_enter Try.func5, Try.ntmps5
  go_wp2_with fail
  refine (sTC_any n a m _).mono ?_
  rintro en w1 ⟨rfl, rfl⟩
  go_wp2_with fail
  refine (iTC_any n a m _).mono ?_
  rintro en w1 ⟨rfl, hb⟩
  go_wp2
  go_ret
  exact ⟨rfl, hb⟩
end Go.Proofs.Ytoaldcibmcmfdaa
