/- the law, walked: FnDelays -/
import Derived.Test.YtfmhbphbgdijpaaDrW3
import Derived.Test.YtfmhbphbgdijpaaLike
import Derived.Test.YtfmhbphbgdijpaaPlainLaw
import Derived.Test.YtfmhbphbgdijpaaW13
import Derived.Test.YtfmhbphbgdijpaaW15
import Derived.Test.YtfmhbphbgdijpaaW2
import Derived.Deep.QuietTactic
import Derived.BigQuiet
set_option linter.unusedVariables false
set_option linter.unusedSimpArgs false
namespace Go.Proofs.Ytfmhbphbgdijpaa
open Go.RowKit

set_option maxRecDepth 100000 in
set_option maxHeartbeats 32000000 in
theorem lawDs_any (A : Option Addr) (n c : Nat) (w : World) (hr : RdB w A n) :
    Calls Try.prog 11 #[.slice A n c] w fun en w9 => en = .returned (.bool true) ∧ Below w.heap.size w w9 := by
  by_cases hm : 4096 < (n : Int)
  · have hbig : decide (4096 < (n : Int)) = true := decide_eq_true hm
    go_enter Try.func11, Try.ntmps11
    go_wp2_with fail
    refine (big_any _ _ _ _).mono ?_
    rintro en wz ⟨rfl, rfl⟩
    rw [hbig]
    go_wp2
    go_ret
    exact ⟨rfl, Below.refl _ _⟩
  · have hbig : decide (4096 < (n : Int)) = false := decide_eq_false hm
    have hm2 : n ≤ 4096 := by omega
    go_enter Try.func11, Try.ntmps11
    go_wp2_with fail
    refine (big_any _ _ _ _).mono ?_
    rintro en wz ⟨rfl, rfl⟩
    rw [hbig]
    clear hbig hm
    go_wp2_with fail
    refine (dDly_any A n c _ hr hm2).mono ?_
    rintro en w1 ⟨Ax, p, cp, xs, c1, s1, h1, r, v, rfl, hp, hpc, hp8, hrx, hb1⟩
    go_wp2_with fail
    have hb2 : Below w1.heap.size w1 (w1.alloc (.cells #[.int .i64 c1, .int .i64 s1, .int .i64 h1] 42)) := Below.alloc (Below.refl _ _) (Nat.le_refl _) _
    have hx2 : Box (w1.alloc (.cells #[.int .i64 c1, .int .i64 s1, .int .i64 h1] 42)) w1.heap.size c1 s1 h1 := (BoxW.new w1 _ c1 s1 h1).1
    generalize (w1.alloc (.cells #[.int .i64 c1, .int .i64 s1, .int .i64 h1] 42)) = w2 at hb2 hx2 ⊢
    have K2_x := Lib.hid (Rd.below hrx hb2)
    have K2_b := Lib.hid hx2
    have HB2 := Lib.hid (bseq hb1 hb2)
    clear hb1 hb2 hrx hx2
    refine (iDl_any Ax p cp xs c1 s1 h1 r v _ hp hpc (by omega) K2_x.out).mono ?_
    rintro en w3 ⟨A_l, c_l, rfl, hR, hb⟩
    have K3_x := Lib.hid (K2_x.out.below hb)
    have K3_b := Lib.hid (K2_b.out.below hb)
    have HB3 := Lib.hid (bseq HB2.out hb)
    clear K2_x K2_b HB2
    have K3_l := Lib.hid hR
    clear hR
    clear hb
    obtain ⟨b0, b1, b2⟩ := K3_b.out
    go_wp2_with fail
    clear b0 b1 b2
    refine (sDl_any Ax p cp xs c1 s1 h1 r v _ hp hpc (by omega) K3_x.out).mono ?_
    rintro en w4 ⟨A_m, c_m, rfl, hR, hb⟩
    have K4_x := Lib.hid (K3_x.out.below hb)
    have K4_b := Lib.hid (K3_b.out.below hb)
    have K4_l := Lib.hid (K3_l.out.below hb)
    have HB4 := Lib.hid (bseq HB3.out hb)
    clear K3_x K3_b K3_l HB3
    have K4_m := Lib.hid hR
    clear hR
    clear hb
    obtain ⟨b0, b1, b2⟩ := K4_b.out
    go_wp2_with fail
    clear b0 b1 b2
    refine (iDe_any Ax p cp xs c1 s1 h1 r v _ hp hpc (by omega) K4_x.out).mono ?_
    rintro en w5 ⟨A_e, c_e, rfl, hR, hb⟩
    have K5_x := Lib.hid (K4_x.out.below hb)
    have K5_b := Lib.hid (K4_b.out.below hb)
    have K5_l := Lib.hid (K4_l.out.below hb)
    have K5_m := Lib.hid (K4_m.out.below hb)
    have HB5 := Lib.hid (bseq HB4.out hb)
    clear K4_x K4_b K4_l K4_m HB4
    have K5_e := Lib.hid hR
    clear hR
    clear hb
    obtain ⟨b0, b1, b2⟩ := K5_b.out
    go_wp2_with fail
    clear b0 b1 b2
    refine (sDe_any Ax p cp xs c1 s1 h1 r v _ hp hpc (by omega) K5_x.out).mono ?_
    rintro en w6 ⟨A_f, c_f, rfl, hR, hb⟩
    have K6_x := Lib.hid (K5_x.out.below hb)
    have K6_b := Lib.hid (K5_b.out.below hb)
    have K6_l := Lib.hid (K5_l.out.below hb)
    have K6_m := Lib.hid (K5_m.out.below hb)
    have K6_e := Lib.hid (K5_e.out.below hb)
    have HB6 := Lib.hid (bseq HB5.out hb)
    clear K5_x K5_b K5_l K5_m K5_e HB5
    have K6_f := Lib.hid hR
    clear hR
    clear hb
    have hll : (dlVal xs c1 s1 h1 r v).length ≤ 1048576 := dlVal_len hp (by omega)
    have hle : (deVal xs c1 s1 h1 r v).length ≤ 1048576 := deVal_len hp (by omega)
    obtain ⟨WC, hWC⟩ : ∃ WC, WC = wvCode xs c1 s1 h1 r v := ⟨_, rfl⟩
    rw [← hWC]
    have HWC := Lib.hid hWC
    clear hWC
    obtain ⟨X, hX⟩ : ∃ X, X = dlVal xs c1 s1 h1 r v := ⟨_, rfl⟩
    rw [← hX] at hll K6_l K6_m ⊢
    have HX := Lib.hid hX
    clear hX
    obtain ⟨E, hE⟩ : ∃ E, E = deVal xs c1 s1 h1 r v := ⟨_, rfl⟩
    rw [← hE] at hle K6_e K6_f ⊢
    have HE := Lib.hid hE
    clear hE
    obtain ⟨NL, hNL⟩ : ∃ NL, NL = X.length := ⟨_, rfl⟩
    rw [← hNL] at hll ⊢
    have HNL := Lib.hid hNL.symm
    clear hNL
    obtain ⟨NE, hNE⟩ : ∃ NE, NE = E.length := ⟨_, rfl⟩
    rw [← hNE] at hle ⊢
    have HNE := Lib.hid hNE.symm
    clear hNE
    go_wp2_with fail
    refine (likeT_any A_l A_m _ _ c_l c_m X X _ HNL.out HNL.out (by omega) (by omega) K6_l.out.rd K6_m.out.rd rfl).mono ?_
    rintro en w7 ⟨rfl, hb⟩
    have K7_x := Lib.hid (K6_x.out.below hb)
    have K7_b := Lib.hid (K6_b.out.below hb)
    have K7_l := Lib.hid (K6_l.out.below hb)
    have K7_m := Lib.hid (K6_m.out.below hb)
    have K7_e := Lib.hid (K6_e.out.below hb)
    have K7_f := Lib.hid (K6_f.out.below hb)
    have HB7 := Lib.hid (bseq HB6.out hb)
    clear K6_x K6_b K6_l K6_m K6_e K6_f HB6
    clear hb
    go_wp2_with fail
    refine (likeT_any A_e A_f _ _ c_e c_f E E _ HNE.out HNE.out (by omega) (by omega) K7_e.out.rd K7_f.out.rd rfl).mono ?_
    rintro en w8 ⟨rfl, hb⟩
    have K8_x := Lib.hid (K7_x.out.below hb)
    have K8_b := Lib.hid (K7_b.out.below hb)
    have K8_l := Lib.hid (K7_l.out.below hb)
    have K8_m := Lib.hid (K7_m.out.below hb)
    have K8_e := Lib.hid (K7_e.out.below hb)
    have K8_f := Lib.hid (K7_f.out.below hb)
    have HB8 := Lib.hid (bseq HB7.out hb)
    clear K7_x K7_b K7_l K7_m K7_e K7_f HB7
    clear hb
    go_wp2_with fail
    refine (iArr_any Ax p cp xs _ hp hpc (by omega) K8_x.out).mono ?_
    rintro en w9 ⟨rfl, mq, hq⟩
    have hb := bquiet hq
    clear hq
    have K9_x := Lib.hid (K8_x.out.below hb)
    have K9_b := Lib.hid (K8_b.out.below hb)
    have K9_l := Lib.hid (K8_l.out.below hb)
    have K9_m := Lib.hid (K8_m.out.below hb)
    have K9_e := Lib.hid (K8_e.out.below hb)
    have K9_f := Lib.hid (K8_f.out.below hb)
    have HB9 := Lib.hid (bseq HB8.out hb)
    clear K8_x K8_b K8_l K8_m K8_e K8_f HB8
    clear hb
    go_wp2_with fail
    refine (sArr_any Ax p cp xs _ hp hpc (by omega) K9_x.out).mono ?_
    rintro en w10 ⟨rfl, mq, hq⟩
    have hb := bquiet hq
    clear hq
    have K10_x := Lib.hid (K9_x.out.below hb)
    have K10_b := Lib.hid (K9_b.out.below hb)
    have K10_l := Lib.hid (K9_l.out.below hb)
    have K10_m := Lib.hid (K9_m.out.below hb)
    have K10_e := Lib.hid (K9_e.out.below hb)
    have K10_f := Lib.hid (K9_f.out.below hb)
    have HB10 := Lib.hid (bseq HB9.out hb)
    clear K9_x K9_b K9_l K9_m K9_e K9_f HB9
    clear hb
    obtain ⟨IA, hIA⟩ : ∃ IA, IA = isArr xs := ⟨_, rfl⟩
    rw [← hIA]
    clear hIA
    by_cases h0 : WC = 0
    rotate_left
    · have hz : (WC != 0) = true := by simpa using h0
      clear h0
      go_wp2
      go_ret
      exact ⟨rfl, HB10.out⟩
    · have hz0 : wvCode xs c1 s1 h1 r v = 0 := by rw [← HWC.out]; exact h0
      subst h0
      have hm := mirror hz0
      have hw := wvCode_zero hz0
      rw [← HX.out, ← HE.out, hp] at hm
      obtain ⟨m1, m2, m3, m4, m5, m6, m7⟩ := hm
      have hs1b := hw.2.2.2.1
      have hp1 : 1 ≤ p := by rw [← hp]; exact hw.1.1
      obtain ⟨Y, hY⟩ : ∃ Y, Y = dlVal xs c1 (-s1) h1 r v := ⟨_, rfl⟩
      rw [← hY] at m3 m5
      have HML : Hid (dlVal xs c1 (-s1) h1 r v = Y) := hY.symm
      have HMC : Hid (wvCode xs c1 (-s1) h1 r v = 0) := m1
      have HNY := Lib.hid m3
      have HNG := Lib.hid m5
      have HVE := Lib.hid m6
      have HVX := Lib.hid m7
      obtain rfl : p = NL := by rw [← HNL.out]; exact m2.symm
      obtain rfl : p = NE := by rw [← HNE.out]; exact m4.symm
      clear hY m1 m2 m3 m4 m5 m6 m7 hw hz0 HWC HX HE
      have h9 := fun w => iDl_any Ax p cp xs c1 (-s1) h1 r v w hp hpc (by omega)
      rw [HMC.out, HML.out] at h9
      have H9 := Lib.hid h9
      clear h9
      obtain ⟨b0, b1, b2⟩ := K10_b.out
      go_wp2_with fail
      clear b0 b1 b2
      refine (H9.out _ K10_x.out).mono ?_
      rintro en w11 ⟨A_y, c_y, rfl, hR, hb⟩
      have K11_x := Lib.hid (K10_x.out.below hb)
      have K11_b := Lib.hid (K10_b.out.below hb)
      have K11_l := Lib.hid (K10_l.out.below hb)
      have K11_m := Lib.hid (K10_m.out.below hb)
      have K11_e := Lib.hid (K10_e.out.below hb)
      have K11_f := Lib.hid (K10_f.out.below hb)
      have HB11 := Lib.hid (bseq HB10.out hb)
      clear K10_x K10_b K10_l K10_m K10_e K10_f HB10
      have K11_y := Lib.hid hR
      clear hR
      clear hb
      clear H9
      have h9 := fun w => sDl_any Ax p cp xs c1 (-s1) h1 r v w hp hpc (by omega)
      rw [HMC.out, HML.out] at h9
      have H9 := Lib.hid h9
      clear h9
      obtain ⟨b0, b1, b2⟩ := K11_b.out
      go_wp2_with fail
      clear b0 b1 b2
      refine (H9.out _ K11_x.out).mono ?_
      rintro en w12 ⟨A_z, c_z, rfl, hR, hb⟩
      have K12_x := Lib.hid (K11_x.out.below hb)
      have K12_b := Lib.hid (K11_b.out.below hb)
      have K12_l := Lib.hid (K11_l.out.below hb)
      have K12_m := Lib.hid (K11_m.out.below hb)
      have K12_e := Lib.hid (K11_e.out.below hb)
      have K12_f := Lib.hid (K11_f.out.below hb)
      have K12_y := Lib.hid (K11_y.out.below hb)
      have HB12 := Lib.hid (bseq HB11.out hb)
      clear K11_x K11_b K11_l K11_m K11_e K11_f K11_y HB11
      have K12_z := Lib.hid hR
      clear hR
      clear hb
      clear H9
      go_wp2_with fail
      rw [HNY.out]
      refine (likeT_any A_y A_z _ _ c_y c_z Y Y _ HNY.out HNY.out (by omega) (by omega) K12_y.out.rd K12_z.out.rd rfl).mono ?_
      rintro en w13 ⟨rfl, hb⟩
      have K13_x := Lib.hid (K12_x.out.below hb)
      have K13_b := Lib.hid (K12_b.out.below hb)
      have K13_l := Lib.hid (K12_l.out.below hb)
      have K13_m := Lib.hid (K12_m.out.below hb)
      have K13_e := Lib.hid (K12_e.out.below hb)
      have K13_f := Lib.hid (K12_f.out.below hb)
      have K13_y := Lib.hid (K12_y.out.below hb)
      have K13_z := Lib.hid (K12_z.out.below hb)
      have HB13 := Lib.hid (bseq HB12.out hb)
      clear K12_x K12_b K12_l K12_m K12_e K12_f K12_y K12_z HB12
      clear hb

      rcases K13_l.out.rd with h0 | ⟨x1, x2, hXA, hxc⟩
      · exfalso; have := HNL.out; rw [h0] at this; simp at this; omega
      rcases K13_y.out.rd with h0 | ⟨y1, y2, hYA, hyc⟩
      · exfalso; have := HNY.out; rw [h0] at this; simp at this; omega
      rcases K13_e.out.rd with h0 | ⟨z1, z2, hEA, hzc⟩
      · exfalso; have := HNE.out; rw [h0] at this; simp at this; omega
      subst hXA
      subst hYA
      subst hEA
      have HXC : Hid (∀ i, i < p → w13.cell? ⟨x1, x2 + i, none⟩ = some (.int .i64 (X.getD i 0))) := fun i hi => hxc i (by rw [HNL.out]; exact hi)
      have HYC : Hid (∀ i, i < p → w13.cell? ⟨y1, y2 + i, none⟩ = some (.int .i64 (-(X.getD i 0)))) := fun i hi => by rw [hyc i (by rw [HNY.out]; exact hi), HNG.out i]
      have HZC : Hid (∀ i, i < p → w13.cell? ⟨z1, z2 + i, none⟩ = some (.int .i64 (E.getD i 0))) := fun i hi => hzc i (by rw [HNE.out]; exact hi)
      have HBEL : Hid (Below w.heap.size w w13) := HB13.out
      clear hxc hyc hzc
      go_wp2
      go_loopw [19] (fun i wv => ∃ j q : Nat, j ≤ p ∧ i = .int .i64 (j : Int) ∧ wv = w13.drewN q) (fun i _ => p - (intOf i).toNat)
      case atStart => exact ⟨0, 0, Nat.zero_le _, rfl, rfl⟩
      case round =>
        obtain ⟨j, q, hj, rfl, hwv⟩ := hrel
        obtain ⟨wv, hwv2⟩ : ∃ wv : World, wv = wr := ⟨_, rfl⟩
        subst hwv2
        have HW := Lib.hid hwv
        clear hwv
        by_cases hjn : j < p
        · have cx9 : wv.cell? ⟨x1, x2 + j, none⟩ = some (.int .i64 (X.getD j 0)) := by rw [HW.out]; exact HXC.out j hjn
          have cy9 : wv.cell? ⟨y1, y2 + j, none⟩ = some (.int .i64 (-(X.getD j 0))) := by rw [HW.out]; exact HYC.out j hjn
          have cz9 : wv.cell? ⟨z1, z2 + j, none⟩ = some (.int .i64 (E.getD j 0)) := by rw [HW.out]; exact HZC.out j hjn
          have vx := HVX.out j
          have ve := HVE.out j hjn
          obtain ⟨u, hu⟩ : ∃ u, u = X.getD j 0 := ⟨_, rfl⟩
          obtain ⟨g, hg⟩ : ∃ g, g = E.getD j 0 := ⟨_, rfl⟩
          rw [← hu] at cx9 cy9 vx
          rw [← hg] at cz9 ve
          clear hu hg
          have e9 : IntKind.i64.wrap (-u) = -u := IntWalk.i64_in _ (by omega)
          have e8 : (-u != -u) = false := by simp
          have d1 : decide (g < 0) = false := decide_eq_false (by omega)
          have d2 : decide (500 < g) = false := decide_eq_false (by omega)
          have d3 : ¬ g < 0 := by omega
          have d4 : ¬ 500 < g := by omega
          have hji : (j : Int) < p := by omega
          clear ve vx
          go_wp2
          go_quiet (fail)
          go_wp2
          clear e9 e8 d1 d2 d3 d4
          go_roundw
          case rel => exact ⟨j + 1, _, by omega, by go_num, by rw [HW.out]; exact World.drewN_drewN _ _ _⟩
          case measure => simp [intOf]; omega
        · obtain rfl : p = j := by omega
          have hB9 : Below w.heap.size w wv := by rw [HW.out]; exact below_drewN HBEL.out _
          go_wp2
          go_ret
          exact ⟨rfl, hB9⟩
end Go.Proofs.Ytfmhbphbgdijpaa
