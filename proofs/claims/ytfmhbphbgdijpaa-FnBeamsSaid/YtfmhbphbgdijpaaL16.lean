/- the law, walked: FnBeams -/
import Derived.Test.YtfmhbphbgdijpaaDrW8
import Derived.Test.YtfmhbphbgdijpaaLike
import Derived.Test.YtfmhbphbgdijpaaPlainBm
import Derived.Test.YtfmhbphbgdijpaaW20
import Derived.Test.YtfmhbphbgdijpaaW13
import Derived.Test.YtfmhbphbgdijpaaW9
set_option linter.unusedVariables false
set_option linter.unusedSimpArgs false
namespace Go.Proofs.Ytfmhbphbgdijpaa
open Go.RowKit

set_option maxRecDepth 100000 in
set_option maxHeartbeats 32000000 in
theorem lawBeams_any (A : Option Addr) (n c : Nat) (w : World) (hr : RdB w A n) :
    Calls Try.prog 4 #[.slice A n c] w fun en w9 => en = .returned (.bool true) ∧ Below w.heap.size w w9 := by
  by_cases hm : 4096 < (n : Int)
  · have hbig : decide (4096 < (n : Int)) = true := decide_eq_true hm
    go_enter Try.func4, Try.ntmps4
    go_wp2_with fail
    refine (big_any _ _ _ _).mono ?_
    rintro en wz ⟨rfl, rfl⟩
    rw [hbig]
    go_wp2
    go_ret
    exact ⟨rfl, Below.refl _ _⟩
  · have hbig : decide (4096 < (n : Int)) = false := decide_eq_false hm
    have hm2 : n ≤ 4096 := by omega
    go_enter Try.func4, Try.ntmps4
    go_wp2_with fail
    refine (big_any _ _ _ _).mono ?_
    rintro en wz ⟨rfl, rfl⟩
    rw [hbig]
    clear hbig hm
    go_wp2_with fail
    refine (dBm_any A n c _ hr hm2).mono ?_
    rintro en w1 ⟨Ax, nn, cx, rows, Bx, p, cd, ds, rfl, hn, hnc, hn5, hrow, hrm, hp, hpd, hp10, hrd, hb1⟩
    have K1_c := Lib.hid hrm
    have K1_d := Lib.hid hrd
    have HB1 := Lib.hid hb1
    have HROW := Lib.hid hrow
    clear hrm hrd hb1 hrow
    go_wp2_with fail
    refine (iBeamOf_any Ax nn cx rows Bx p cd ds _ hn (by omega) (fun k _ => Nat.le_trans (HROW.out k) (by omega)) K1_c.out hp hpd (by omega) K1_d.out).mono ?_
    rintro en w2 ⟨A_f, c_f, rfl, hR, hb⟩
    have K2_c := Lib.hid (K1_c.out.below hb)
    have K2_d := Lib.hid (K1_d.out.below hb)
    have HB2 := Lib.hid (bseq HB1.out hb)
    clear K1_c K1_d HB1
    have K2_f := Lib.hid hR
    clear hR
    clear hb
    go_wp2_with fail
    refine (sBeamOf_any Ax nn cx rows Bx p cd ds _ hn (by omega) (fun k _ => Nat.le_trans (HROW.out k) (by omega)) K2_c.out hp hpd (by omega) K2_d.out).mono ?_
    rintro en w3 ⟨A_g, c_g, rfl, hR, hb⟩
    have K3_c := Lib.hid (K2_c.out.below hb)
    have K3_d := Lib.hid (K2_d.out.below hb)
    have K3_f := Lib.hid (K2_f.out.below hb)
    have HB3 := Lib.hid (bseq HB2.out hb)
    clear K2_c K2_d K2_f HB2
    have K3_g := Lib.hid hR
    clear hR
    clear hb
    have hlv : (bmVal rows ds).length ≤ 1048576 := bmVal_len
    obtain ⟨V, hV⟩ : ∃ V, V = bmVal rows ds := ⟨_, rfl⟩
    rw [← hV] at hlv K3_f K3_g ⊢
    clear hV
    obtain ⟨BC, hBC⟩ : ∃ BC, BC = bmCode rows ds := ⟨_, rfl⟩
    rw [← hBC]
    have HBC := Lib.hid hBC
    clear hBC
    go_wp2_with fail
    refine (iBp_any Ax nn cx rows Bx p cd ds _ hn (by omega) (fun k _ => Nat.le_trans (HROW.out k) (by omega)) K3_c.out hp hpd (by omega) K3_d.out).mono ?_
    rintro en w4 ⟨rfl, hb⟩
    have K4_c := Lib.hid (K3_c.out.below hb)
    have K4_d := Lib.hid (K3_d.out.below hb)
    have K4_f := Lib.hid (K3_f.out.below hb)
    have K4_g := Lib.hid (K3_g.out.below hb)
    have HB4 := Lib.hid (bseq HB3.out hb)
    clear K3_c K3_d K3_f K3_g HB3
    clear hb
    go_wp2_with fail
    refine (sBp_any Ax nn cx rows Bx p cd ds _ hn (by omega) (fun k _ => Nat.le_trans (HROW.out k) (by omega)) K4_c.out hp hpd (by omega) K4_d.out).mono ?_
    rintro en w5 ⟨rfl, hb⟩
    have K5_c := Lib.hid (K4_c.out.below hb)
    have K5_d := Lib.hid (K4_d.out.below hb)
    have K5_f := Lib.hid (K4_f.out.below hb)
    have K5_g := Lib.hid (K4_g.out.below hb)
    have HB5 := Lib.hid (bseq HB4.out hb)
    clear K4_c K4_d K4_f K4_g HB4
    clear hb
    rw [← HBC.out]
    obtain ⟨P, hP⟩ : ∃ P, P = bpVal rows ds := ⟨_, rfl⟩
    rw [← hP]
    have HP := Lib.hid hP
    clear hP
    go_wp2_with fail
    refine (dBb_any A n c _ (RdB.below hr HB5.out) hm2).mono ?_
    rintro en w6 ⟨Ay, y, cy, Y, Px, pp, pc, xs, Dx, m, dc, f, g, e, r, v, rfl, hny, hny12, hrowy, hry, hpx, hpxd, hpx8, hrpx, hm41, hrD, hb⟩
    have K6_c := Lib.hid (K5_c.out.below hb)
    have K6_d := Lib.hid (K5_d.out.below hb)
    have K6_f := Lib.hid (K5_f.out.below hb)
    have K6_g := Lib.hid (K5_g.out.below hb)
    have HB6 := Lib.hid (bseq HB5.out hb)
    clear K5_c K5_d K5_f K5_g HB5
    have K6_y := Lib.hid hry
    clear hry
    have K6_x := Lib.hid hrpx
    clear hrpx
    have K6_D := Lib.hid hrD
    clear hrD
    clear hb
    have HROWY := Lib.hid hrowy
    clear hrowy
    go_wp2_with fail
    refine (iBb_any Ay y cy Y Px pp pc xs Dx m dc f g e r v _ hny (by omega) (fun k _ => Nat.le_trans (HROWY.out k) (by omega)) K6_y.out hpx hpxd (by omega) K6_x.out (by omega) K6_D.out).mono ?_
    rintro en w7 ⟨rfl, hb⟩
    have K7_c := Lib.hid (K6_c.out.below hb)
    have K7_d := Lib.hid (K6_d.out.below hb)
    have K7_f := Lib.hid (K6_f.out.below hb)
    have K7_g := Lib.hid (K6_g.out.below hb)
    have K7_y := Lib.hid (K6_y.out.below hb)
    have K7_x := Lib.hid (K6_x.out.below hb)
    have K7_D := Lib.hid (K6_D.out.below hb)
    have HB7 := Lib.hid (bseq HB6.out hb)
    clear K6_c K6_d K6_f K6_g K6_y K6_x K6_D HB6
    clear hb
    obtain ⟨TC, hTC⟩ : ∃ TC, TC = bbCode Y xs m f g e r v := ⟨_, rfl⟩
    rw [← hTC]
    have HTC := Lib.hid hTC
    clear hTC
    obtain ⟨BV, hBV⟩ : ∃ BV, BV = bbVal Y xs m f g e r v := ⟨_, rfl⟩
    rw [← hBV]
    have HBV := Lib.hid hBV
    clear hBV
    go_wp2_with fail
    refine (sBb_any Ay y cy Y Px pp pc xs Dx m dc f g e r v _ hny (by omega) (fun k _ => Nat.le_trans (HROWY.out k) (by omega)) K7_y.out hpx hpxd (by omega) K7_x.out (by omega) K7_D.out).mono ?_
    rintro en w8 ⟨rfl, hb⟩
    have K8_c := Lib.hid (K7_c.out.below hb)
    have K8_d := Lib.hid (K7_d.out.below hb)
    have K8_f := Lib.hid (K7_f.out.below hb)
    have K8_g := Lib.hid (K7_g.out.below hb)
    have K8_y := Lib.hid (K7_y.out.below hb)
    have K8_x := Lib.hid (K7_x.out.below hb)
    have K8_D := Lib.hid (K7_D.out.below hb)
    have HB8 := Lib.hid (bseq HB7.out hb)
    clear K7_c K7_d K7_f K7_g K7_y K7_x K7_D HB7
    clear hb
    rw [← HTC.out, ← HBV.out]
    go_wp2_with fail
    refine (likeT_any A_f A_g _ _ c_f c_g V V _ rfl rfl (by omega) (by omega) K8_f.out.rd K8_g.out.rd rfl).mono ?_
    rintro en w9 ⟨rfl, hb⟩
    have K9_c := Lib.hid (K8_c.out.below hb)
    have K9_d := Lib.hid (K8_d.out.below hb)
    have K9_f := Lib.hid (K8_f.out.below hb)
    have K9_g := Lib.hid (K8_g.out.below hb)
    have K9_y := Lib.hid (K8_y.out.below hb)
    have K9_x := Lib.hid (K8_x.out.below hb)
    have K9_D := Lib.hid (K8_D.out.below hb)
    have HB9 := Lib.hid (bseq HB8.out hb)
    clear K8_c K8_d K8_f K8_g K8_y K8_x K8_D HB8
    clear hb
    go_wp2_with fail
    refine (iCh_any Ax nn cx rows _ hn (by omega) (fun k _ => Nat.le_trans (HROW.out k) (by omega)) K9_c.out).mono ?_
    rintro en w10 ⟨rfl, mq, hq⟩
    have hb := bquiet hq
    clear hq
    have K10_c := Lib.hid (K9_c.out.below hb)
    have K10_d := Lib.hid (K9_d.out.below hb)
    have K10_f := Lib.hid (K9_f.out.below hb)
    have K10_g := Lib.hid (K9_g.out.below hb)
    have K10_y := Lib.hid (K9_y.out.below hb)
    have K10_x := Lib.hid (K9_x.out.below hb)
    have K10_D := Lib.hid (K9_D.out.below hb)
    have HB10 := Lib.hid (bseq HB9.out hb)
    clear K9_c K9_d K9_f K9_g K9_y K9_x K9_D HB9
    clear hb
    go_wp2_with fail
    refine (sCh_any Ax nn cx rows _ hn (by omega) (fun k _ => Nat.le_trans (HROW.out k) (by omega)) K10_c.out).mono ?_
    rintro en w11 ⟨rfl, mq, hq⟩
    have hb := bquiet hq
    clear hq
    have K11_c := Lib.hid (K10_c.out.below hb)
    have K11_d := Lib.hid (K10_d.out.below hb)
    have K11_f := Lib.hid (K10_f.out.below hb)
    have K11_g := Lib.hid (K10_g.out.below hb)
    have K11_y := Lib.hid (K10_y.out.below hb)
    have K11_x := Lib.hid (K10_x.out.below hb)
    have K11_D := Lib.hid (K10_D.out.below hb)
    have HB11 := Lib.hid (bseq HB10.out hb)
    clear K10_c K10_d K10_f K10_g K10_y K10_x K10_D HB10
    clear hb

    by_cases ht0 : TC = 0
    rotate_left
    · have htz : (TC == 0) = false := by simpa using ht0
      clear ht0
      go_wp2
      go_loopw [22, 23] (fun u i wr => i = .int .i64 0 ∧ u = .int .i64 (-1) ∧ Hid (Below w11.heap.size w11 wr)) (fun _ _ _ => 0)
      case atStart => exact ⟨rfl, rfl, Below.refl _ _⟩
      case round =>
        obtain ⟨rfl, rfl, HBW⟩ := hrel
        obtain ⟨w60, hw60⟩ : ∃ w60 : World, w60 = wr := ⟨_, rfl⟩
        subst hw60
        have K60_c := Lib.hid (K11_c.out.below HBW.out)
        have HB60 : Hid (Below w.heap.size w w60) := bseq HB11.out HBW.out

        clear HBW
        by_cases hb0 : BC = 0
        rotate_left
        · have hbz : (BC != 0) = true := by simpa using hb0
          clear hb0
          go_wp2
          go_ret
          exact ⟨rfl, HB60.out⟩
        · have hz0 : bmCode rows ds = 0 := by rw [← HBC.out]; exact hb0
          subst hb0
          obtain ⟨s1, s2, s3, s4, s5⟩ := bm_law hn hz0
          rw [← HP.out] at s1
          have s0 : enAll rows 0 = 0 := rfl
          generalize enAll rows = S at s0 s1 s4 s5
          have HS0 := Lib.hid s0
          have HS1 := Lib.hid s1
          have HS3 := Lib.hid s3
          have HS4 := Lib.hid s4
          have HS5 := Lib.hid s5
          have h00 : Hid ((.int .i64 0 : Value) = .int .i64 (S 0)) := Lib.hid (by rw [s0])
          clear s0 s1 s3 s4 s5 hz0
          go_wp2
          go_loopw [28, 29] (fun u i wr => ∃ k : Nat, k ≤ nn ∧ i = .int .i64 (k : Int) ∧ u = .int .i64 (S k) ∧ Hid (Below w60.heap.size w60 wr)) (fun _ i _ => nn - (intOf i).toNat)
          case atStart => exact ⟨0, Nat.zero_le _, rfl, h00.out, Below.refl _ _⟩
          case round =>
            clear h00
            obtain ⟨k, hk, rfl, rfl, HBV2⟩ := hrel
            by_cases hkn : k < nn
            · have hki : (k : Int) < nn := by omega
              have K61_c := Lib.hid (K60_c.out.below HBV2.out)
              rcases K61_c.out with h0 | ⟨cb, co, hA, hcs⟩
              · exfalso; rw [h0] at hn; simp at hn; omega
              subst hA
              obtain ⟨B, mm, c, cc, hl, hmc, hm9, hrd⟩ := hcs k (by omega)
              have hl5 := HROW.out k
              have HRD := Lib.hid hrd
              have hen := HS3.out k hkn
              have hb4 := HS4.out k (by omega)
              have hb5 := HS4.out (k + 1) (by omega)
              have hs5 := HS5.out k
              clear hrd hcs
              go_wp2_with fail
              refine (iEn_any B mm c (rows.getD k []) _ hl hmc (by omega) HRD.out).mono ?_
              rintro en we ⟨rfl, mq, hq⟩
              have hb := bquiet hq
              have HBV3 := Lib.hid (bseq HBV2.out hb)
              rw [hen.1, hen.2]
              clear hb hq HBV2 K61_c HRD hen
              rw [hs5] at hb5
              have HE5 := Lib.hid hs5
              clear hs5
              generalize corr (rows.getD k []) 0 = ek at HE5 hb5 ⊢
              generalize hsk : S k = sk at HE5 hb5 hb4 ⊢
              go_wp2
              go_roundw
              case rel => exact ⟨k + 1, by omega, by go_num, by rw [HE5.out], HBV3⟩
              case measure => simp [intOf]; omega
            · obtain rfl : k = nn := by omega
              have hs1 := HS1.out
              have hs4 := HS4.out k (by omega)
              have hmul : 0 ≤ (k : Int) * S k ∧ (k : Int) * S k ≤ 12 * 4800000000 := ⟨Int.mul_nonneg (by omega) hs4.1, Int.mul_le_mul (by omega) hs4.2 hs4.1 (by omega)⟩
              have hfin : Below w.heap.size w wr := bseq HB60.out HBV2.out
              have HFIN := Lib.hid hfin
              clear hfin
              generalize S k = sk at hs1 hs4 hmul ⊢
              obtain ⟨p1, p2⟩ := hs1
              go_wp2
              go_ret
              exact ⟨rfl, HFIN.out⟩
    · have hz0 : bbCode Y xs m f g e r v = 0 := by rw [← HTC.out]; exact ht0
      subst ht0
      obtain ⟨T, Wt, t0, t1, t2, t3, t4, t5, t6⟩ := bb_law hz0
      have HT1 := Lib.hid t1
      have HT2 := Lib.hid t2
      have HT3 := Lib.hid t3
      have HT4 := Lib.hid t4
      have h00 : Hid ((.int .i64 (-1) : Value) = .int .i64 (T 0)) := Lib.hid (by rw [t0])
      clear t0 t1 t2 t3 t4 hz0
      go_wp2
      go_loopw [22, 23] (fun u i wr => ∃ k : Nat, k ≤ m ∧ i = .int .i64 (k : Int) ∧ u = .int .i64 (T k) ∧ Hid (Below w11.heap.size w11 wr)) (fun _ i _ => m - (intOf i).toNat)
      case atStart => exact ⟨0, Nat.zero_le _, rfl, h00.out, Below.refl _ _⟩
      case round =>
        clear h00
        obtain ⟨k, hk, rfl, rfl, HBW⟩ := hrel
        by_cases hkm : k < m
        · have hki : (k : Int) < m := by omega
          obtain ⟨w40, hw40⟩ : ∃ w40 : World, w40 = wr := ⟨_, rfl⟩
          subst hw40
          have K40_y := Lib.hid (K11_y.out.below HBW.out)
          have K40_x := Lib.hid (K11_x.out.below HBW.out)
          have K40_D := Lib.hid (K11_D.out.below HBW.out)
          have HB40 := HBW
          clear HBW
          rcases K40_D.out with h0 | ⟨b5, o5, hA5, hcs⟩
          · exfalso; omega
          subst hA5
          obtain ⟨cx, cy, cz⟩ := hcs k hkm
          have hE := HT4.out k hkm
          have hW := HT3.out k hkm
          have hT := HT2.out k (by omega)
          have hT1 := HT1.out k
          obtain ⟨fx, hfx⟩ : ∃ x, x = f k := ⟨_, rfl⟩
          obtain ⟨gx, hgx⟩ : ∃ x, x = g k := ⟨_, rfl⟩
          obtain ⟨ex, hex⟩ : ∃ x, x = e k := ⟨_, rfl⟩
          rw [← hfx] at cx
          rw [← hgx] at cy
          rw [← hex] at cz
          rw [← hfx, ← hgx, ← hex] at hE
          rw [← HBV.out] at hW
          clear hfx hgx hex hcs
          have HE := Lib.hid hE
          have HT5 := Lib.hid hT1
          clear hE hT1
          generalize Wt k = wk at hW HE HT5
          generalize hTk : T k = tk at hW hT HT5 ⊢
          clear hTk
          go_wp2_with fail
          clear cx cy cz
          refine (iDl_any Px pp pc xs fx gx ex r v _ hpx hpxd (by omega) K40_x.out).mono ?_
          rintro en w41 ⟨A_s, c_s, rfl, hR, hb⟩
          have K41_y := Lib.hid (K40_y.out.below hb)
          have K41_x := Lib.hid (K40_x.out.below hb)
          have K41_D := Lib.hid (K40_D.out.below hb)
          have HB41 := Lib.hid (bseq HB40.out hb)
          clear K40_y K40_x K40_D HB40
          have K41_s := Lib.hid hR
          clear hR
          clear hb
          obtain ⟨D, hD⟩ : ∃ D, D = dlVal xs fx gx ex r v := ⟨_, rfl⟩
          obtain ⟨e1, e2, e3, e4⟩ := HE.out D hD
          rw [← hD, e2, e1, hpx]
          rw [← hD] at K41_s
          have hcs : pp ≤ c_s := by have := K41_s.out.2.1; rw [e1, hpx] at this; exact this
          rw [hpx] at e1
          have HE1 := Lib.hid e1
          have HE3 := Lib.hid e3
          have HE4 := Lib.hid e4
          clear e1 e2 e3 e4 HE hD
          go_wp2_with fail
          refine (iBp_any Ay y cy Y A_s pp c_s D _ hny (by omega) (fun k _ => Nat.le_trans (HROWY.out k) (by omega)) K41_y.out HE1.out hcs (by omega) K41_s.out.rd).mono ?_
          rintro en w42 ⟨rfl, hb⟩
          have K42_y := Lib.hid (K41_y.out.below hb)
          have K42_x := Lib.hid (K41_x.out.below hb)
          have K42_D := Lib.hid (K41_D.out.below hb)
          have K42_s := Lib.hid (K41_s.out.below hb)
          have HB42 := Lib.hid (bseq HB41.out hb)
          clear K41_y K41_x K41_D K41_s HB41
          clear hb
          rw [HE3.out, HE4.out]

          clear HE1 HE3 HE4
          obtain ⟨hw1, hw2⟩ := hW
          by_cases hlt : tk < wk
          · have hge : (k : Int) ≤ BV := hw2 hlt
            have hng : ¬ BV < (k : Int) := by omega
            have hmx : max tk wk = wk := by omega
            rw [hmx] at HT5
            clear hw2 hmx
            go_wp2
            all_goals go_roundw
            all_goals first
              | exact ⟨k + 1, by omega, by go_num, by rw [HT5.out], HB42⟩
              | (simp [intOf]; omega)
          · have hmx : max tk wk = tk := by omega
            rw [hmx] at HT5
            clear hw2 hmx
            go_wp2
            all_goals go_roundw
            all_goals first
              | exact ⟨k + 1, by omega, by go_num, by rw [HT5.out], HB42⟩
              | (simp [intOf]; omega)
        · obtain rfl : k = m := by omega
          obtain ⟨w60, hw60⟩ : ∃ w60 : World, w60 = wr := ⟨_, rfl⟩
          subst hw60
          have K60_c := Lib.hid (K11_c.out.below HBW.out)
          have HB60 : Hid (Below w.heap.size w w60) := bseq HB11.out HBW.out

          clear HBW
          by_cases hb0 : BC = 0
          rotate_left
          · have hbz : (BC != 0) = true := by simpa using hb0
            clear hb0
            go_wp2
            go_ret
            exact ⟨rfl, HB60.out⟩
          · have hz0 : bmCode rows ds = 0 := by rw [← HBC.out]; exact hb0
            subst hb0
            obtain ⟨s1, s2, s3, s4, s5⟩ := bm_law hn hz0
            rw [← HP.out] at s1
            have s0 : enAll rows 0 = 0 := rfl
            generalize enAll rows = S at s0 s1 s4 s5
            have HS0 := Lib.hid s0
            have HS1 := Lib.hid s1
            have HS3 := Lib.hid s3
            have HS4 := Lib.hid s4
            have HS5 := Lib.hid s5
            have h00 : Hid ((.int .i64 0 : Value) = .int .i64 (S 0)) := Lib.hid (by rw [s0])
            clear s0 s1 s3 s4 s5 hz0
            go_wp2
            go_loopw [28, 29] (fun u i wr => ∃ k : Nat, k ≤ nn ∧ i = .int .i64 (k : Int) ∧ u = .int .i64 (S k) ∧ Hid (Below w60.heap.size w60 wr)) (fun _ i _ => nn - (intOf i).toNat)
            case atStart => exact ⟨0, Nat.zero_le _, rfl, h00.out, Below.refl _ _⟩
            case round =>
              clear h00
              obtain ⟨k, hk, rfl, rfl, HBV2⟩ := hrel
              by_cases hkn : k < nn
              · have hki : (k : Int) < nn := by omega
                have K61_c := Lib.hid (K60_c.out.below HBV2.out)
                rcases K61_c.out with h0 | ⟨cb, co, hA, hcs⟩
                · exfalso; rw [h0] at hn; simp at hn; omega
                subst hA
                obtain ⟨B, mm, c, cc, hl, hmc, hm9, hrd⟩ := hcs k (by omega)
                have hl5 := HROW.out k
                have HRD := Lib.hid hrd
                have hen := HS3.out k hkn
                have hb4 := HS4.out k (by omega)
                have hb5 := HS4.out (k + 1) (by omega)
                have hs5 := HS5.out k
                clear hrd hcs
                go_wp2_with fail
                refine (iEn_any B mm c (rows.getD k []) _ hl hmc (by omega) HRD.out).mono ?_
                rintro en we ⟨rfl, mq, hq⟩
                have hb := bquiet hq
                have HBV3 := Lib.hid (bseq HBV2.out hb)
                rw [hen.1, hen.2]
                clear hb hq HBV2 K61_c HRD hen
                rw [hs5] at hb5
                have HE5 := Lib.hid hs5
                clear hs5
                generalize corr (rows.getD k []) 0 = ek at HE5 hb5 ⊢
                generalize hsk : S k = sk at HE5 hb5 hb4 ⊢
                go_wp2
                go_roundw
                case rel => exact ⟨k + 1, by omega, by go_num, by rw [HE5.out], HBV3⟩
                case measure => simp [intOf]; omega
              · obtain rfl : k = nn := by omega
                have hs1 := HS1.out
                have hs4 := HS4.out k (by omega)
                have hmul : 0 ≤ (k : Int) * S k ∧ (k : Int) * S k ≤ 12 * 4800000000 := ⟨Int.mul_nonneg (by omega) hs4.1, Int.mul_le_mul (by omega) hs4.2 hs4.1 (by omega)⟩
                have hfin : Below w.heap.size w wr := bseq HB60.out HBV2.out
                have HFIN := Lib.hid hfin
                clear hfin
                generalize S k = sk at hs1 hs4 hmul ⊢
                obtain ⟨p1, p2⟩ := hs1
                go_wp2
                go_ret
                exact ⟨rfl, HFIN.out⟩
end Go.Proofs.Ytfmhbphbgdijpaa
