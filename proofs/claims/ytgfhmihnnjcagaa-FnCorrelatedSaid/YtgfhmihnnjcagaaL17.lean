/- the law, walked: FnCorrelated -/
import Derived.Test.YtgfhmihnnjcagaaDrW2
import Derived.Test.YtgfhmihnnjcagaaLike
import Derived.Test.YtgfhmihnnjcagaaW22
import Derived.Test.YtgfhmihnnjcagaaW8
import Derived.Test.YtgfhmihnnjcagaaW5
import Derived.Deep.QuietTactic
import Derived.BigQuiet
set_option linter.unusedVariables false
set_option linter.unusedSimpArgs false
namespace Go.Proofs.Ytgfhmihnnjcagaa
open Go.RowKit

set_option maxRecDepth 100000 in
set_option maxHeartbeats 32000000 in
theorem lawCo_any (A : Option Addr) (n c : Nat) (w : World) (hr : RdB w A n) :
    Calls Try.prog 17 #[.slice A n c] w fun en w9 => en = .returned (.bool true) ∧ Below w.heap.size w w9 := by
  by_cases hm : 4096 < (n : Int)
  · have hbig : decide (4096 < (n : Int)) = true := decide_eq_true hm
    go_enter Try.func17, Try.ntmps17
    go_wp2_with fail
    refine (big_any _ _ _ _).mono ?_
    rintro en wz ⟨rfl, rfl⟩
    rw [hbig]
    go_wp2
    go_ret
    exact ⟨rfl, Below.refl _ _⟩
  · have hbig : decide (4096 < (n : Int)) = false := decide_eq_false hm
    have hm2 : n ≤ 4096 := by omega
    go_enter Try.func17, Try.ntmps17
    go_wp2_with fail
    refine (big_any _ _ _ _).mono ?_
    rintro en wz ⟨rfl, rfl⟩
    rw [hbig]
    clear hbig hm
    go_wp2_with fail
    refine (dCors_any A n c _ hr hm2).mono ?_
    rintro en w1 ⟨Ax, p, cx, xs, rfl, hp, hpc, hp5, hrx, hA, hb1⟩
    have K1_x := Lib.hid hrx
    clear hrx
    go_wp2_with fail
    refine (iCors_any Ax p cx xs _ hp hpc (by omega) K1_x.out).mono ?_
    rintro en w2 ⟨A_l, c_l, rfl, hR, hb⟩
    have K2_x := Lib.hid (K1_x.out.below hb)
    have HB2 := Lib.hid (bseq hb1 hb)
    clear K1_x hb1
    have K2_l := Lib.hid hR
    clear hR
    clear hb
    go_wp2_with fail
    refine (sCors_any Ax p cx xs _ hp hpc (by omega) K2_x.out).mono ?_
    rintro en w3 ⟨A_m, c_m, rfl, hR, hb⟩
    have K3_x := Lib.hid (K2_x.out.below hb)
    have K3_l := Lib.hid (K2_l.out.below hb)
    have HB3 := Lib.hid (bseq HB2.out hb)
    clear K2_x K2_l HB2
    have K3_m := Lib.hid hR
    clear hR
    clear hb
    go_wp2_with fail
    refine (iSd_any Ax p cx xs _ hp hpc (by omega) K3_x.out).mono ?_
    rintro en w4 ⟨rfl, mq, hq⟩
    have hb := bquiet hq
    clear hq
    have K4_x := Lib.hid (K3_x.out.below hb)
    have K4_l := Lib.hid (K3_l.out.below hb)
    have K4_m := Lib.hid (K3_m.out.below hb)
    have HB4 := Lib.hid (bseq HB3.out hb)
    clear K3_x K3_l K3_m HB3
    clear hb
    go_wp2_with fail
    refine (sSd_any Ax p cx xs _ hp hpc (by omega) K4_x.out).mono ?_
    rintro en w5 ⟨rfl, mq, hq⟩
    have hb := bquiet hq
    clear hq
    have K5_x := Lib.hid (K4_x.out.below hb)
    have K5_l := Lib.hid (K4_l.out.below hb)
    have K5_m := Lib.hid (K4_m.out.below hb)
    have HB5 := Lib.hid (bseq HB4.out hb)
    clear K4_x K4_l K4_m HB4
    clear hb
    go_wp2_with fail
    refine (iEn_any Ax p cx xs _ hp hpc (by omega) K5_x.out).mono ?_
    rintro en w6 ⟨rfl, mq, hq⟩
    have hb := bquiet hq
    clear hq
    have K6_x := Lib.hid (K5_x.out.below hb)
    have K6_l := Lib.hid (K5_l.out.below hb)
    have K6_m := Lib.hid (K5_m.out.below hb)
    have HB6 := Lib.hid (bseq HB5.out hb)
    clear K5_x K5_l K5_m HB5
    clear hb
    go_wp2_with fail
    refine (sEn_any Ax p cx xs _ hp hpc (by omega) K6_x.out).mono ?_
    rintro en w7 ⟨rfl, mq, hq⟩
    have hb := bquiet hq
    clear hq
    have K7_x := Lib.hid (K6_x.out.below hb)
    have K7_l := Lib.hid (K6_l.out.below hb)
    have K7_m := Lib.hid (K6_m.out.below hb)
    have HB7 := Lib.hid (bseq HB6.out hb)
    clear K6_x K6_l K6_m HB6
    clear hb
    go_wp2_with fail
    refine (iTurn_any Ax p cx xs _ hp hpc (by omega) K7_x.out hA).mono ?_
    rintro en w8 ⟨A_y, c_y, rfl, hR, hb⟩
    have K8_x := Lib.hid (K7_x.out.below hb)
    have K8_l := Lib.hid (K7_l.out.below hb)
    have K8_m := Lib.hid (K7_m.out.below hb)
    have HB8 := Lib.hid (bseq HB7.out hb)
    clear K7_x K7_l K7_m HB7
    have K8_y := Lib.hid hR
    clear hR
    clear hb
    go_wp2_with fail
    refine (sTurn_any Ax p cx xs _ hp hpc (by omega) K8_x.out).mono ?_
    rintro en w9 ⟨A_z, c_z, rfl, hR, hb⟩
    have K9_x := Lib.hid (K8_x.out.below hb)
    have K9_l := Lib.hid (K8_l.out.below hb)
    have K9_m := Lib.hid (K8_m.out.below hb)
    have K9_y := Lib.hid (K8_y.out.below hb)
    have HB9 := Lib.hid (bseq HB8.out hb)
    clear K8_x K8_l K8_m K8_y HB8
    have K9_z := Lib.hid hR
    clear hR
    clear hb
    rcases Bool.eq_false_or_eq_true (isSig xs) with hs | hs
    · have hv : crCode xs = 0 := by simp [crCode, hs]
      have HCV : Hid (crVal xs = corrsTo xs p) := by show _ = _; simp [crVal, hs, hp]
      have HTV : Hid (tnVal xs = xs.reverse) := by show _ = _; simp [tnVal, hs]
      have hlc : (crVal xs).length = p := by rw [HCV.out, corrsTo_len]
      have hlt : (tnVal xs).length = p := by rw [HTV.out, List.length_reverse, hp]
      have HTL := Lib.hid hlt
      have HCL := Lib.hid hlc
      have HRV : Hid (crVal (tnVal xs) = crVal xs ∧ crCode (tnVal xs) = crCode xs) := by show _ ∧ _; rw [HTV.out]; exact crVal_rev xs
      have hcy : p ≤ c_y := by have := K9_y.out.2.1; rw [hlt] at this; exact this
      have HEN : Hid (enVal xs = corr xs 0) := by show _ = _; simp [enVal, hs]
      have HSD : Hid (sdVal xs = side xs) := by show _ = _; simp [sdVal, hs]
      have hse : sdVal xs ≤ enVal xs := by rw [HEN.out, HSD.out]; exact side_le xs
      go_wp2_with fail
      refine (likeT_any A_l A_m _ _ c_l c_m (crVal xs) (crVal xs) _ HCL.out HCL.out (by omega) (by omega) K9_l.out.rd K9_m.out.rd rfl).mono ?_
      rintro en w10 ⟨rfl, hb⟩
      have K10_x := Lib.hid (K9_x.out.below hb)
      have K10_l := Lib.hid (K9_l.out.below hb)
      have K10_m := Lib.hid (K9_m.out.below hb)
      have K10_y := Lib.hid (K9_y.out.below hb)
      have K10_z := Lib.hid (K9_z.out.below hb)
      have HB10 := Lib.hid (bseq HB9.out hb)
      clear K9_x K9_l K9_m K9_y K9_z HB9
      clear hb
      go_wp2_with fail
      refine (likeT_any A_y A_z _ _ c_y c_z (tnVal xs) (tnVal xs) _ HTL.out HTL.out (by omega) (by omega) K10_y.out.rd K10_z.out.rd rfl).mono ?_
      rintro en w11 ⟨rfl, hb⟩
      have K11_x := Lib.hid (K10_x.out.below hb)
      have K11_l := Lib.hid (K10_l.out.below hb)
      have K11_m := Lib.hid (K10_m.out.below hb)
      have K11_y := Lib.hid (K10_y.out.below hb)
      have K11_z := Lib.hid (K10_z.out.below hb)
      have HB11 := Lib.hid (bseq HB10.out hb)
      clear K10_x K10_l K10_m K10_y K10_z HB10
      clear hb
      go_wp2_with fail
      refine (iSig_any Ax p cx xs _ hp hpc (by omega) K11_x.out).mono ?_
      rintro en wz ⟨rfl, rfl⟩
      have h9 := iCors_any A_y p c_y (tnVal xs) w11 HTL.out hcy (by omega) K11_y.out.rd
      go_wp2_with fail
      rw [HRV.out.1, HRV.out.2] at h9
      refine h9.mono ?_
      rintro en w12 ⟨A_k, c_k, rfl, hR, hb⟩
      have K12_x := Lib.hid (K11_x.out.below hb)
      have K12_l := Lib.hid (K11_l.out.below hb)
      have K12_m := Lib.hid (K11_m.out.below hb)
      have K12_y := Lib.hid (K11_y.out.below hb)
      have K12_z := Lib.hid (K11_z.out.below hb)
      have HB12 := Lib.hid (bseq HB11.out hb)
      clear K11_x K11_l K11_m K11_y K11_z HB11
      have K12_k := Lib.hid hR
      clear hR
      clear hb
      have HCA : Hid (∀ i, i < p → (crVal xs).getD i 0 = corr xs i) := by show ∀ i, _; intro i hi; rw [HCV.out, cors_at hi]
      have HLE : Hid (∀ i, -enVal xs ≤ corr xs i ∧ corr xs i ≤ enVal xs) := by show ∀ i, _; rw [HEN.out]; exact corr_le xs
      have HSG : Hid (∀ i, 1 ≤ i → i < p → iabs (corr xs i) ≤ sdVal xs) := by show ∀ i, _; rw [HSD.out]; intro i h1 h2; exact side_ge xs h1 (by omega)
      have HE0 : Hid (corr xs 0 = enVal xs) := HEN.out.symm
      have HEB : Hid (-400000000 ≤ enVal xs ∧ enVal xs ≤ 400000000) := by show _ ∧ _; rw [HEN.out]; exact corr_bd (isSig_iff.1 hs).2 (isSig_iff.1 hs).1 0
      have HSE := Lib.hid hse
      clear HEN HSD HTV HRV HCV hse
      obtain ⟨E, hE⟩ : ∃ E, E = enVal xs := ⟨_, rfl⟩
      obtain ⟨D, hD⟩ : ∃ D, D = sdVal xs := ⟨_, rfl⟩
      rw [← hE] at HLE HE0 HEB HSE ⊢
      rw [← hD] at HSG HSE ⊢
      clear hE hD
      go_wp2
      go_loopw [22] (fun i wr => ∃ k m : Nat, k ≤ p ∧ i = .int .i64 (k : Int) ∧ wr = w12.drewN m) (fun i _ => p - (intOf i).toNat)
      case atStart => exact ⟨0, 0, Nat.zero_le _, rfl, rfl⟩
      case round =>
        obtain ⟨k, m, hk, rfl, hwr⟩ := hrel
        have HW := Lib.hid hwr; clear hwr
        have hbw : Below w12.heap.size w12 wr := by rw [HW.out]; exact below_drewN (Below.refl _ _) m
        by_cases hkp : k < p
        · have hrd : Rd wr A_l (crVal xs) := K12_l.out.rd.below hbw
          rcases hrd with h0 | ⟨b, off, hA2, hc⟩
          · exfalso; have := HCL.out; rw [h0] at this; simp at this; omega
          subst hA2
          have hx := hc k (by rw [HCL.out]; exact hkp)
          rw [HCA.out k hkp] at hx
          have h1 := HLE.out k
          have h2 := HSG.out k
          have heb := HEB.out
          obtain ⟨x, hxx⟩ : ∃ x, x = corr xs k := ⟨_, rfl⟩
          rw [← hxx] at hx h1 h2
          clear hxx hc
          have hki : (k : Int) < p := by omega
          have h3 : ¬ E < x := by omega
          have h4 : ¬ E < -x := by omega
          have e1 : IntKind.i64.wrap (-x) = -x := IntWalk.i64_in _ (by omega)
          rcases Nat.eq_zero_or_pos k with hk0 | hk0
          · subst hk0
            rw [Nat.add_zero] at hx
            have hki : (0 : Int) < p := by omega
            clear h2
            have d1 : decide (E < x) = false := decide_eq_false h3
            have d2 : decide (E < -x) = false := decide_eq_false h4
            clear h3 h4 h1 heb
            rcases Int.lt_or_le x (-x) with h8 | h8
            all_goals
              go_wp2
              go_quiet (fail)
              go_wp2
              clear e1
              go_roundw
              case rel => exact ⟨1, m + nq, by omega, by go_num, by rw [HW.out]; exact World.drewN_drewN _ _ _⟩
              case measure => simp [intOf]; omega
          · have h5 := h2 (by omega) hkp
            unfold iabs at h5
            have h6 : ¬ D < x := by omega
            have h6b : ¬ D < -x := by omega
            have h7 : (0 : Int) < (k : Int) := by omega
            have d1 : decide (E < x) = false := decide_eq_false h3
            have d2 : decide (E < -x) = false := decide_eq_false h4
            have d3 : decide (D < x) = false := decide_eq_false h6
            have d4 : decide (D < -x) = false := decide_eq_false h6b
            clear h2 h5 h3 h4 h6 h6b h1 heb
            rcases Int.lt_or_le x (-x) with h8 | h8
            all_goals
              go_wp2
              go_quiet (fail)
              go_wp2
              clear e1
              go_roundw
              case rel => exact ⟨k + 1, m + nq, by omega, by go_num, by rw [HW.out]; exact World.drewN_drewN _ _ _⟩
              case measure => simp [intOf]; omega
        · obtain rfl : k = p := by omega
          have HBW := Lib.hid hbw
          have HKB := Lib.hid (K12_k.out.below hbw)
          have HMB := Lib.hid (K12_m.out.below hbw)
          have HLB := Lib.hid (K12_l.out.below hbw)
          have HTOT := Lib.hid (bseq HB12.out hbw)
          clear hbw
          have hse := HSE.out
          rcases Nat.eq_zero_or_pos k with h0 | h0
          · subst h0
            go_wp2_with fail
            refine (likeT_any A_k A_m _ _ c_k c_m (crVal xs) (crVal xs) _ HCL.out HCL.out (by omega) (by omega) HKB.out.rd HMB.out.rd rfl).mono ?_
            rintro en w20 ⟨rfl, hb⟩
            have HTOT2 := Lib.hid (bseq HTOT.out hb)
            clear hb
            go_wp2
            go_ret
            exact ⟨rfl, HTOT2.out⟩
          · have hrd := HLB.out.rd
            rcases hrd with h1 | ⟨b, off, hA2, hc⟩
            · exfalso; have := HCL.out; rw [h1] at this; simp at this; omega
            subst hA2
            have hx0 := hc 0 (by rw [HCL.out]; exact h0)
            rw [HCA.out 0 h0, HE0.out, Nat.add_zero] at hx0
            have hki : ¬ (k : Int) = 0 := by omega
            have hkb : ((k : Int) == 0) = false := by simpa using hki
            have hkp0 : (0 : Int) < k := by omega
            clear hc
            go_wp2_with fail
            refine (likeT_any A_k A_m _ _ c_k c_m (crVal xs) (crVal xs) _ HCL.out HCL.out (by omega) (by omega) HKB.out.rd HMB.out.rd rfl).mono ?_
            rintro en w20 ⟨rfl, hb⟩
            have hx1 := later hb hx0
            have HTOT2 := Lib.hid (bseq HTOT.out hb)
            clear hb hx0
            go_wp2
            go_ret
            exact ⟨rfl, HTOT2.out⟩
    · have hv : crCode xs = 1 := by simp [crCode, hs]
      have hlc : (crVal xs).length = 0 := by simp [crVal, hs]
      have hlt : (tnVal xs).length = 0 := by simp [tnVal, hs]
      have HTL := Lib.hid hlt
      have HCL := Lib.hid hlc
      go_wp2_with fail
      refine (likeT_any A_l A_m _ _ c_l c_m (crVal xs) (crVal xs) _ HCL.out HCL.out (by omega) (by omega) K9_l.out.rd K9_m.out.rd rfl).mono ?_
      rintro en w10 ⟨rfl, hb⟩
      have K10_x := Lib.hid (K9_x.out.below hb)
      have K10_l := Lib.hid (K9_l.out.below hb)
      have K10_m := Lib.hid (K9_m.out.below hb)
      have K10_y := Lib.hid (K9_y.out.below hb)
      have K10_z := Lib.hid (K9_z.out.below hb)
      have HB10 := Lib.hid (bseq HB9.out hb)
      clear K9_x K9_l K9_m K9_y K9_z HB9
      clear hb
      go_wp2_with fail
      refine (likeT_any A_y A_z _ _ c_y c_z (tnVal xs) (tnVal xs) _ HTL.out HTL.out (by omega) (by omega) K10_y.out.rd K10_z.out.rd rfl).mono ?_
      rintro en w11 ⟨rfl, hb⟩
      have K11_x := Lib.hid (K10_x.out.below hb)
      have K11_l := Lib.hid (K10_l.out.below hb)
      have K11_m := Lib.hid (K10_m.out.below hb)
      have K11_y := Lib.hid (K10_y.out.below hb)
      have K11_z := Lib.hid (K10_z.out.below hb)
      have HB11 := Lib.hid (bseq HB10.out hb)
      clear K10_x K10_l K10_m K10_y K10_z HB10
      clear hb
      go_wp2_with fail
      refine (iSig_any Ax p cx xs _ hp hpc (by omega) K11_x.out).mono ?_
      rintro en wz ⟨rfl, rfl⟩
      go_wp2
      go_ret
      exact ⟨rfl, HB11.out⟩
end Go.Proofs.Ytgfhmihnnjcagaa
