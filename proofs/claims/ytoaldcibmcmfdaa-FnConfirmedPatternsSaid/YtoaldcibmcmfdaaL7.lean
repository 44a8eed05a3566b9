/- the law, walked: FnTails -/
import Derived.Test.YtoaldcibmcmfdaaDrW2
import Derived.Test.YtoaldcibmcmfdaaW10
import Derived.Test.YtoaldcibmcmfdaaW2
set_option linter.unusedVariables false
set_option linter.unusedSimpArgs false
namespace Go.Proofs.Ytoaldcibmcmfdaa
open Go.RowKit

def TcV (n a m v c : Int) : Prop := v = tcVal n a m ∧ c = tcCode n a m
theorem tc_letters (n a m : Int) : ∃ v c : Int, Hid (TcV n a m v c) := ⟨_, _, rfl, rfl⟩
theorem iTCL_any (n a m v c : Int) (w : World) (H : Hid (TcV n a m v c)) : Calls Try.prog 19 #[.int .i64 n, .int .i64 a, .int .i64 m] w fun en w9 => en = .returned (.tuple #[.int .i64 v, .int .i64 c]) ∧ Below w.heap.size w w9 := by
  obtain ⟨rfl, rfl⟩ := H.out; exact iTC_any n a m w
theorem sTCL_any (n a m v c : Int) (w : World) (H : Hid (TcV n a m v c)) : Calls Try.prog 18 #[.int .i64 n, .int .i64 a, .int .i64 m] w fun en w9 => en = .returned (.tuple #[.int .i64 v, .int .i64 c]) ∧ w = w9 := by
  obtain ⟨rfl, rfl⟩ := H.out; exact sTC_any n a m w
theorem tcOk_of {j k : Nat} {a : Int} (hj : j ≤ 12) (h0 : 0 ≤ a) (h1 : a ≤ 16) (hk : k ≤ j + 1) : tcOk j a k = true := by
  unfold tcOk; rw [inR_iff.2 (by omega), inR_iff.2 (by omega), inR_iff.2 (by omega)]; rfl
theorem tc_at {j k : Nat} {a : Int} (hj : j ≤ 12) (h0 : 0 ≤ a) (h1 : a ≤ 16) (hk : k ≤ j + 1) : Hid (TcV j a k (tail j a k) 0) := by
  have h := (tc_good (tcOk_of hj h0 h1 hk)).out
  exact ⟨h.1.symm, h.2.symm⟩
theorem tc_ok {n a m v c : Int} (H : Hid (TcV n a m v c)) (hc : c = 0) : ∃ j k : Nat, n = j ∧ m = k ∧ j ≤ 12 ∧ k ≤ j + 1 ∧ 0 ≤ a ∧ a ≤ 16 ∧ v = tail j a k := by
  have h2 := H.out.2
  rcases tc_parts n a m with h1 | ⟨h1, hh⟩ | ⟨h1, hh, h3⟩ | ⟨j, k, rfl, rfl, hj, hk, h0, h16, h1, hh, h3⟩
  · rw [(tc_bad (n := n) (a := a) (m := m) (by simp [tcOk, h1])).out.2, hc] at h2; cases h2
  · rw [(tc_bad (n := n) (a := a) (m := m) (by simp [tcOk, hh])).out.2, hc] at h2; cases h2
  · rw [(tc_bad (n := n) (a := a) (m := m) (by simp [tcOk, h3])).out.2, hc] at h2; cases h2
  · exact ⟨j, k, rfl, rfl, hj, hk, h0, h16, by rw [H.out.1, (tc_at hj h0 h16 hk).out.1]⟩
/-- the next threshold: a tail that is no greater, or none -/
theorem tc_next {j k : Nat} {a : Int} (hj : j ≤ 12) (h0 : 0 ≤ a) (h1 : a ≤ 16) (hk : k ≤ j + 1) : ∃ v c : Int, Hid (TcV j a ((k : Int) + 1) v c) ∧ ((c = 0 ∧ v ≤ tail j a k) ∨ (c != 0) = true) := by
  obtain ⟨v, c, H⟩ := tc_letters j a ((k : Int) + 1)
  refine ⟨v, c, H, ?_⟩
  by_cases hc : c = 0
  · obtain ⟨j2, k2, e1, e2, _, _, _, _, e3⟩ := tc_ok H hc
    have : j2 = j := by omega
    subst this
    have : k2 = k + 1 := by omega
    subst this
    exact .inl ⟨hc, by rw [e3]; exact tail_mono_m _ h0 h1 (Nat.le_succ k)⟩
  · exact .inr (by simpa using hc)
theorem tc_more {j k : Nat} {a : Int} (hj : j ≤ 12) (h0 : 0 ≤ a) (h1 : a ≤ 16) (hk : k ≤ j + 1) : ∃ v c : Int, Hid (TcV j (a + 1) k v c) ∧ ((c = 0 ∧ tail j a k ≤ v) ∨ (c != 0) = true) := by
  obtain ⟨v, c, H⟩ := tc_letters j (a + 1) k
  refine ⟨v, c, H, ?_⟩
  by_cases hc : c = 0
  · obtain ⟨j2, k2, e1, e2, _, _, _, g1, e3⟩ := tc_ok H hc
    have : j2 = j := by omega
    subst this
    have : k2 = k := by omega
    subst this
    exact .inl ⟨hc, by rw [e3]; exact tail_mono_a _ h0 g1 _⟩
  · exact .inr (by simpa using hc)
theorem case_at {j : Nat} (hj : j ≤ 12) : caseVal j = p16 j ∧ caseCode j = 0 := by
  have h : inR (j : Int) 0 12 = true := inR_iff.2 (by omega)
  unfold caseVal caseCode; rw [h]; exact ⟨rfl, rfl⟩

set_option maxRecDepth 100000 in
set_option maxHeartbeats 16000000 in
theorem lawTails_any (A : Option Addr) (n c : Nat) (w : World) (hr : RdB w A n) :
    Calls Try.prog 11 #[.slice A n c] w fun en w9 => en = .returned (.bool true) ∧ Below w.heap.size w w9 := by
  by_cases hm : 4096 < (n : Int)
  · have hbig : decide (4096 < (n : Int)) = true := decide_eq_true hm
    go_enter Try.func11, Try.ntmps11
    go_wp2_with fail
    refine (big_any _ _ _ _).mono ?_
    rintro en wz ⟨rfl, rfl⟩
    rw [hbig]
    go_wp2
    go_ret
    exact ⟨rfl, Below.refl _ _⟩
  · have hbig : decide (4096 < (n : Int)) = false := decide_eq_false hm
    have hm2 : n ≤ 4096 := by omega
    go_enter Try.func11, Try.ntmps11
    go_wp2_with fail
    refine (big_any _ _ _ _).mono ?_
    rintro en wz ⟨rfl, rfl⟩
    rw [hbig]
    clear hbig hm
    go_wp2_with fail
    refine (dTail_any A n c _ hr hm2).mono ?_
    rintro en w1 ⟨p, a, m, rfl, hb1⟩
    obtain ⟨v, bad, HV⟩ := tc_letters p a m
    go_wp2_with fail
    refine (iTCL_any _ _ _ v bad _ HV).mono ?_
    rintro en w2 ⟨rfl, hb2⟩
    go_wp2_with fail
    refine (sTCL_any _ _ _ v bad _ HV).mono ?_
    rintro en w3 ⟨rfl, rfl⟩
    go_wp2_with fail
    refine (iCase_any _ _).mono ?_
    rintro en w3 ⟨rfl, rfl⟩
    go_wp2_with fail
    refine (sCase_any _ _).mono ?_
    rintro en w3 ⟨rfl, rfl⟩
    have hB2 := bseq hb1 hb2
    by_cases hc : bad = 0
    · obtain ⟨j, k, rfl, rfl, hj, hk, h0, h16, hv⟩ := tc_ok HV hc
      obtain ⟨c1, c2⟩ := case_at hj
      rw [c1, c2]
      subst hc
      have HX := Lib.hid hv; clear hv c1 c2
      have q1 := tc_at hj h0 h16 (k := 0) (by omega)
      rw [tail_zero] at q1
      have q2 := tc_at hj h0 h16 (k := j + 1) (by omega)
      rw [tail_end j a (j + 1) (by omega)] at q2
      obtain ⟨v5, c5, q5, r5⟩ := tc_next hj h0 h16 hk
      obtain ⟨v6, c6, q6, r6⟩ := tc_more hj h0 h16 hk
      rw [← HX.out] at r5 r6
      go_wp2_with fail
      refine (iTCL_any _ _ _ _ _ _ q1).mono ?_
      rintro en w3 ⟨rfl, hb3⟩
      go_wp2_with fail
      refine (iTCL_any _ _ _ 0 0 _ (by simpa using q2)).mono ?_
      rintro en w4 ⟨rfl, hb4⟩
      go_wp2_with fail
      refine (iTCL_any _ _ _ v5 c5 _ q5).mono ?_
      rintro en w5 ⟨rfl, hb5⟩
      go_wp2_with fail
      refine (iTCL_any _ _ _ v6 c6 _ q6).mono ?_
      rintro en w6 ⟨rfl, hb6⟩
      have hB6 := bseq hB2 (bseq hb3 (bseq hb4 (bseq hb5 hb6)))
      clear HV HX q1 q2 q5 q6
      rcases r5 with ⟨rfl, r5⟩ | r5 <;> rcases r6 with ⟨rfl, r6⟩ | r6
      all_goals go_wp2
      all_goals go_ret
      all_goals exact ⟨by simp [*], hB6⟩
    · have hd : (bad != 0) = true := by simpa using hc
      clear hc HV
      go_wp2
      go_ret
      exact ⟨rfl, hB2⟩
end Go.Proofs.Ytoaldcibmcmfdaa
