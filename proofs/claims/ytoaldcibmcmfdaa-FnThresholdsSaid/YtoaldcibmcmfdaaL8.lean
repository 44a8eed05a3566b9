/- the law, walked: FnThresholds -/
import Derived.Test.YtoaldcibmcmfdaaDrW3
import Derived.Test.YtoaldcibmcmfdaaL7
import Derived.Test.YtoaldcibmcmfdaaW11
import Derived.Test.YtoaldcibmcmfdaaW12
import Derived.Test.YtoaldcibmcmfdaaW4
set_option linter.unusedVariables false
set_option linter.unusedSimpArgs false
namespace Go.Proofs.Ytoaldcibmcmfdaa
open Go.RowKit

def LhV (n a num den v c : Int) : Prop := v = lhVal n a num den ∧ c = lhCode n a num den
theorem lh_letters (n a num den : Int) : ∃ v c : Int, Hid (LhV n a num den v c) := ⟨_, _, rfl, rfl⟩
theorem iLHL_any (n a num den v c : Int) (w : World) (H : Hid (LhV n a num den v c)) : Calls Try.prog 29 #[.int .i64 n, .int .i64 a, .int .i64 num, .int .i64 den] w fun en w9 => en = .returned (.tuple #[.int .i64 v, .int .i64 c]) ∧ Below w.heap.size w w9 := by
  obtain ⟨rfl, rfl⟩ := H.out; exact iLH_any n a num den w
theorem sLHL_any (n a num den v c : Int) (w : World) (H : Hid (LhV n a num den v c)) : Calls Try.prog 28 #[.int .i64 n, .int .i64 a, .int .i64 num, .int .i64 den] w fun en w9 => en = .returned (.tuple #[.int .i64 v, .int .i64 c]) ∧ w = w9 := by
  obtain ⟨rfl, rfl⟩ := H.out; exact sLH_any n a num den w
def BtV (n a b v c : Int) : Prop := v = btVal n a b ∧ c = btCode n a b
theorem bt_letters (n a b : Int) : ∃ v c : Int, Hid (BtV n a b v c) := ⟨_, _, rfl, rfl⟩
theorem iBTL_any (n a b v c : Int) (w : World) (H : Hid (BtV n a b v c)) : Calls Try.prog 21 #[.int .i64 n, .int .i64 a, .int .i64 b] w fun en w9 => en = .returned (.tuple #[.int .i64 v, .int .i64 c]) ∧ Below w.heap.size w w9 := by
  obtain ⟨rfl, rfl⟩ := H.out; exact iBT_any n a b w
theorem sBTL_any (n a b v c : Int) (w : World) (H : Hid (BtV n a b v c)) : Calls Try.prog 20 #[.int .i64 n, .int .i64 a, .int .i64 b] w fun en w9 => en = .returned (.tuple #[.int .i64 v, .int .i64 c]) ∧ w = w9 := by
  obtain ⟨rfl, rfl⟩ := H.out; exact sBT_any n a b w
theorem lh_ok {n a num den v c : Int} (H : Hid (LhV n a num den v c)) (hc : c = 0) : ∃ j k : Nat, n = j ∧ j ≤ 12 ∧ 0 ≤ a ∧ a ≤ 16 ∧ 1 ≤ den ∧ den ≤ 1000 ∧ 0 ≤ num ∧ num ≤ den ∧ v = k ∧ k ≤ j + 1 ∧ tail j a k * den ≤ num * p16 j ∧ (∀ i, i < k → num * p16 j < tail j a i * den) := by
  have h2 := H.out.2
  rcases lh_parts n a num den with ⟨_, hb⟩ | ⟨_, _, hb⟩ | ⟨_, _, _, hb⟩ | ⟨j, rfl, hj, h0, h16, d0, d1, n0, n1, _, _, _, HOK⟩
  · rw [(lh_bad hb).out.2, hc] at h2; cases h2
  · rw [(lh_bad hb).out.2, hc] at h2; cases h2
  · rw [(lh_bad hb).out.2, hc] at h2; cases h2
  · cases e : leastN (lhTest j a num den) (j + 2) 0 with
    | none =>
      have := leastN_no e (j + 1) (Nat.zero_le _) (by omega)
      rw [lh_end j n0] at this; cases this
    | some k =>
      obtain ⟨_, k2, k3, k4⟩ := leastN_some e
      have hv := (lh_hit HOK (by omega) (fun i hi => k4 i (Nat.zero_le _) hi) k3).out.1
      refine ⟨j, k, rfl, hj, h0, h16, d0, d1, n0, n1, by rw [H.out.1, hv], by omega, by unfold lhTest at k3; exact of_decide_eq_true k3, fun i hi => ?_⟩
      have := k4 i (Nat.zero_le _) hi
      unfold lhTest at this
      have := of_decide_eq_false this; omega
theorem bt_ok {n a b v c : Int} (H : Hid (BtV n a b v c)) (hc : c = 0) : ∃ j k : Nat, n = j ∧ j ≤ 12 ∧ 0 ≤ a ∧ a ≤ 16 ∧ 0 ≤ b ∧ b ≤ 16 ∧ v = k ∧ k ≤ j + 1 ∧ Hid (∀ i : Nat, i ≤ j + 1 → tail j b i - tail j a i ≤ tail j b k - tail j a k) := by
  have h2 := H.out.2
  rcases bt_parts n a b with ⟨_, hb⟩ | ⟨_, _, hb⟩ | ⟨_, _, _, hb⟩ | ⟨j, rfl, hj, a0, a1, b0, b1, _, _, _, hok⟩
  · rw [(bt_bad hb).out.2, hc] at h2; cases h2
  · rw [(bt_bad hb).out.2, hc] at h2; cases h2
  · rw [(bt_bad hb).out.2, hc] at h2; cases h2
  · refine ⟨j, bestTo (dif j a b) (j + 2), rfl, hj, a0, a1, b0, b1, by rw [H.out.1, (bt_good hok).out.1], ?_, fun i hi => bestTo_max (dif j a b) (j + 2) i (by omega)⟩
    have := bestTo_lt (dif j a b) (j + 2) (j + 2) (Nat.le_refl _) (by omega)
    omega
theorem tc_neg {j : Nat} {a : Int} : Hid (TcV j a (-1) 0 2) := by
  have h : tcOk j a (-1) = false := by unfold tcOk; rw [inR_not.2 (show (-1 : Int) < 0 ∨ _ from .inl (by omega))]; simp
  exact ⟨(tc_bad h).out.1.symm, (tc_bad h).out.2.symm⟩

set_option maxRecDepth 100000 in
set_option maxHeartbeats 16000000 in
theorem lawThresholds_any (A : Option Addr) (n c : Nat) (w : World) (hr : RdB w A n) :
    Calls Try.prog 12 #[.slice A n c] w fun en w9 => en = .returned (.bool true) ∧ Below w.heap.size w w9 := by
  by_cases hm : 4096 < (n : Int)
  · have hbig : decide (4096 < (n : Int)) = true := decide_eq_true hm
    go_enter Try.func12, Try.ntmps12
    go_wp2_with fail
    refine (big_any _ _ _ _).mono ?_
    rintro en wz ⟨rfl, rfl⟩
    rw [hbig]
    go_wp2
    go_ret
    exact ⟨rfl, Below.refl _ _⟩
  · have hbig : decide (4096 < (n : Int)) = false := decide_eq_false hm
    have hm2 : n ≤ 4096 := by omega
    go_enter Try.func12, Try.ntmps12
    go_wp2_with fail
    refine (big_any _ _ _ _).mono ?_
    rintro en wz ⟨rfl, rfl⟩
    rw [hbig]
    clear hbig hm
    go_wp2_with fail
    refine (dLeast_any A n c _ hr hm2).mono ?_
    rintro en w1 ⟨p, a, num, den, rfl, hb1⟩
    obtain ⟨v, bad, HV⟩ := lh_letters p a num den
    go_wp2_with fail
    refine (iLHL_any _ _ _ _ v bad _ HV).mono ?_
    rintro en w2 ⟨rfl, hb2⟩
    have hB2 := bseq hb1 hb2
    go_wp2_with fail
    refine (sLHL_any _ _ _ _ v bad _ HV).mono ?_
    rintro en wq ⟨rfl, rfl⟩
    go_wp2_with fail
    refine (dBest_any A n c _ (RdB.below hr hB2) hm2).mono ?_
    rintro en w3 ⟨k1, p1, q1, rfl, hb3⟩
    have hB3 := bseq hB2 hb3
    obtain ⟨bv, one, HW⟩ := bt_letters k1 p1 q1
    go_wp2_with fail
    refine (iBTL_any _ _ _ bv one _ HW).mono ?_
    rintro en w4 ⟨rfl, hb4⟩
    have hB4 := bseq hB3 hb4
    go_wp2_with fail
    refine (sBTL_any _ _ _ bv one _ HW).mono ?_
    rintro en wq ⟨rfl, rfl⟩
    go_wp2_with fail
    refine (dTrials_any A n c _ (RdB.below hr hB4) hm2).mono ?_
    rintro en w5 ⟨x5, y5, z5, rfl, hb5⟩
    have hB5 := bseq hB4 hb5
    go_wp2_with fail
    refine (iTrials_any _ _ _ _).mono ?_
    rintro en wq ⟨rfl, rfl⟩
    go_wp2_with fail
    refine (sTrials_any _ _ _ _).mono ?_
    rintro en wq ⟨rfl, rfl⟩
    clear hb1 hb2 hb3 hb4 hb5 hB2 hB3 hB4
    by_cases ho : one = 0
    · obtain ⟨J, K, rfl, hJ, a0, a1, b0, b1, rfl, hK, HM⟩ := bt_ok HW ho
      subst ho
      clear HW
      have HB5 := Lib.hid hB5; clear hB5
      have HR := Lib.hid hr; clear hr
      go_wp2
      go_loopw [25] (fun i wr => ∃ I : Nat, I ≤ J + 2 ∧ i = .int .i64 (I : Int) ∧ Hid (Below w.heap.size w wr)) (fun i _ => J + 2 - (intOf i).toNat)
      case atStart => exact ⟨0, Nat.zero_le _, rfl, HB5⟩
      case round =>
        obtain ⟨I, hI, rfl, HX⟩ := hrel
        by_cases hlt : I ≤ J + 1
        · have hle : (I : Int) ≤ J + 1 := by omega
          have s1 := tc_at hJ b0 b1 hlt
          have s2 := tc_at hJ a0 a1 hlt
          have s3 := tc_at hJ b0 b1 hK
          have s4 := tc_at hJ a0 a1 hK
          have hm := HM.out I hlt
          have u1 := tail_bd J q1 b0 b1 I; have u2 := tail_bd J p1 a0 a1 I; have u3 := tail_bd J q1 b0 b1 K; have u4 := tail_bd J p1 a0 a1 K
          have up := p16_le J hJ
          go_wp2_with fail
          refine (iTCL_any _ _ _ _ _ _ s1).mono ?_
          rintro en w6 ⟨rfl, hb6⟩
          go_wp2_with fail
          refine (iTCL_any _ _ _ _ _ _ s2).mono ?_
          rintro en w7 ⟨rfl, hb7⟩
          go_wp2_with fail
          refine (iTCL_any _ _ _ _ _ _ s3).mono ?_
          rintro en w8 ⟨rfl, hb8⟩
          go_wp2_with fail
          refine (iTCL_any _ _ _ _ _ _ s4).mono ?_
          rintro en w9 ⟨rfl, hb9⟩
          have HB9 := Lib.hid (bseq HX.out (bseq (bseq hb6 hb7) (bseq hb8 hb9)))
          clear s1 s2 s3 s4
          go_wp2
          go_roundw
          case rel => exact ⟨I + 1, by omega, by go_num, HB9⟩
          case measure => simp [intOf]; omega
        · have hle : ¬ (I : Int) ≤ J + 1 := by omega
          have hbel := HX.out
          by_cases hc : bad = 0
          · obtain ⟨j, k, rfl, hj, h0, h16, d0, d1, n0, n1, rfl, hk, t1, t2⟩ := lh_ok HV hc
            obtain ⟨c1, c2⟩ := case_at hj
            subst hc
            have T2 := Lib.hid t2; clear t2
            have q1 := tc_at hj h0 h16 hk
            have b1 := tail_bd j a h0 h16 k
            have bp := p16_le j hj
            have bp0 := p16_pos j
            have m1 := mulD (x := tail j a k) (M := 281474976710656) (d := den) (D := 1000) b1.1 (by omega) (by omega) d1
            have m2 := mulD (x := num) (M := 1000) (d := p16 j) (D := 281474976710656) n0 (by omega) (by omega) bp
            go_wp2_with fail
            refine (iCase_any _ _).mono ?_
            rintro en wq ⟨rfl, rfl⟩
            rw [c1, c2]
            clear c1 c2
            go_wp2_with fail
            refine (iTCL_any _ _ _ _ _ _ q1).mono ?_
            rintro en w20 ⟨rfl, hb20⟩
            have hB20 := hbel.trans (hb20.mono hbel.size)
            cases k with
            | zero =>
              go_wp2_with fail
              refine (iTCL_any _ _ _ 0 2 _ tc_neg).mono ?_
              rintro en w21 ⟨rfl, hb21⟩
              have hB21 := hB20.trans (hb21.mono hB20.size)
              clear HV q1 T2
              go_wp2
              go_ret
              exact ⟨rfl, hB21⟩
            | succ k =>
              have q2 := tc_at hj h0 h16 (k := k) (by omega)
              have t3 := T2.out k (by omega)
              have b2 := tail_bd j a h0 h16 k
              have m3 := mulD (x := tail j a k) (M := 281474976710656) (d := den) (D := 1000) b2.1 (by omega) (by omega) d1
              go_wp2_with fail
              refine (iTCL_any _ _ _ (tail j a k) 0 _ (by simpa using q2)).mono ?_
              rintro en w21 ⟨rfl, hb21⟩
              have hB21 := hB20.trans (hb21.mono hB20.size)
              clear HV q1 q2 T2
              go_wp2
              go_ret
              exact ⟨by first | rfl | simp [t3], hB21⟩
          · have hd : (bad != 0) = true := by simpa using hc
            clear hc HV
            go_wp2
            go_ret
            exact ⟨rfl, hbel⟩
    · have ho2 : (one == 0) = false := by simpa using ho
      clear ho HW
      go_wp2
      refine wp_loop_rounds 1 ?_
      rw [rounds_succ]
      have hbel := hB5
      by_cases hc : bad = 0
      · obtain ⟨j, k, rfl, hj, h0, h16, d0, d1, n0, n1, rfl, hk, t1, t2⟩ := lh_ok HV hc
        obtain ⟨c1, c2⟩ := case_at hj
        subst hc
        have T2 := Lib.hid t2; clear t2
        have q1 := tc_at hj h0 h16 hk
        have b1 := tail_bd j a h0 h16 k
        have bp := p16_le j hj
        have bp0 := p16_pos j
        have m1 := mulD (x := tail j a k) (M := 281474976710656) (d := den) (D := 1000) b1.1 (by omega) (by omega) d1
        have m2 := mulD (x := num) (M := 1000) (d := p16 j) (D := 281474976710656) n0 (by omega) (by omega) bp
        go_wp2_with fail
        refine (iCase_any _ _).mono ?_
        rintro en wq ⟨rfl, rfl⟩
        rw [c1, c2]
        clear c1 c2
        go_wp2_with fail
        refine (iTCL_any _ _ _ _ _ _ q1).mono ?_
        rintro en w20 ⟨rfl, hb20⟩
        have hB20 := hbel.trans (hb20.mono hbel.size)
        cases k with
        | zero =>
          go_wp2_with fail
          refine (iTCL_any _ _ _ 0 2 _ tc_neg).mono ?_
          rintro en w21 ⟨rfl, hb21⟩
          have hB21 := hB20.trans (hb21.mono hB20.size)
          clear HV q1 T2
          go_wp2
          go_ret
          exact ⟨rfl, hB21⟩
        | succ k =>
          have q2 := tc_at hj h0 h16 (k := k) (by omega)
          have t3 := T2.out k (by omega)
          have b2 := tail_bd j a h0 h16 k
          have m3 := mulD (x := tail j a k) (M := 281474976710656) (d := den) (D := 1000) b2.1 (by omega) (by omega) d1
          go_wp2_with fail
          refine (iTCL_any _ _ _ (tail j a k) 0 _ (by simpa using q2)).mono ?_
          rintro en w21 ⟨rfl, hb21⟩
          have hB21 := hB20.trans (hb21.mono hB20.size)
          clear HV q1 q2 T2
          go_wp2
          go_ret
          exact ⟨by first | rfl | simp [t3], hB21⟩
      · have hd : (bad != 0) = true := by simpa using hc
        clear hc HV
        go_wp2
        go_ret
        exact ⟨rfl, hbel⟩
end Go.Proofs.Ytoaldcibmcmfdaa
