/- the law, walked: FnEchoes -/
import Derived.Test.YtgfhmihnnjcagaaDiceL
import Derived.Test.YtgfhmihnnjcagaaDrW8
import Derived.Test.YtgfhmihnnjcagaaPlainCl
import Derived.Test.YtgfhmihnnjcagaaLike
import Derived.Test.YtgfhmihnnjcagaaW13
import Derived.Test.YtgfhmihnnjcagaaW10
import Derived.Test.YtgfhmihnnjcagaaW16
import Derived.Test.YtgfhmihnnjcagaaW17
import Derived.Test.YtgfhmihnnjcagaaW7
set_option linter.unusedVariables false
set_option linter.unusedSimpArgs false
namespace Go.Proofs.Ytgfhmihnnjcagaa
open Go.RowKit

set_option maxRecDepth 100000 in
set_option maxHeartbeats 32000000 in
theorem lawEc_any (A : Option Addr) (n c : Nat) (w : World) (hr : RdB w A n) :
    Calls Try.prog 21 #[.slice A n c] w fun en w9 => en = .returned (.bool true) ∧ Below w.heap.size w w9 := by
  by_cases hm : 4096 < (n : Int)
  · have hbig : decide (4096 < (n : Int)) = true := decide_eq_true hm
    go_enter Try.func21, Try.ntmps21
    go_wp2_with fail
    refine (big_any _ _ _ _).mono ?_
    rintro en wz ⟨rfl, rfl⟩
    rw [hbig]
    go_wp2
    go_ret
    exact ⟨rfl, Below.refl _ _⟩
  · have hbig : decide (4096 < (n : Int)) = false := decide_eq_false hm
    have hm2 : n ≤ 4096 := by omega
    go_enter Try.func21, Try.ntmps21
    go_wp2_with fail
    refine (big_any _ _ _ _).mono ?_
    rintro en wz ⟨rfl, rfl⟩
    rw [hbig]
    clear hbig hm
    go_wp2_with fail
    refine (dFe_any A n c _ hr hm2).mono ?_
    rintro en w1 ⟨Ax, n1, cx, Bp, p, cp, xs, ps, t, m, rfl, hn, hnc, hn40, hrx, _, hp, hpc, hp8, hrp, _, hb1⟩
    have K1_x := Lib.hid hrx
    clear hrx
    have K1_p := Lib.hid hrp
    clear hrp
    go_wp2_with fail
    refine (iFind_any Ax n1 cx xs Bp p cp ps t m _ hn hnc (by omega) K1_x.out hp hpc (by omega) K1_p.out).mono ?_
    rintro en w2 ⟨A_d, c_d, A_g, c_g, rfl, hR, hR2, hap, hb⟩
    have K2_x := Lib.hid (K1_x.out.below hb)
    have K2_p := Lib.hid (K1_p.out.below hb)
    have HB2 := Lib.hid (bseq hb1 hb)
    clear K1_x K1_p hb1
    have K2_d := Lib.hid hR
    clear hR
    have K2_g := Lib.hid hR2
    clear hR2
    clear hb
    clear hap
    go_wp2_with fail
    refine (sFind_any Ax n1 cx xs Bp p cp ps t m _ hn hnc (by omega) K2_x.out hp hpc (by omega) K2_p.out).mono ?_
    rintro en w3 ⟨A_u, c_u, A_v, c_v, rfl, hR, hR2, hap, hb⟩
    have K3_x := Lib.hid (K2_x.out.below hb)
    have K3_p := Lib.hid (K2_p.out.below hb)
    have K3_d := Lib.hid (K2_d.out.below hb)
    have K3_g := Lib.hid (K2_g.out.below hb)
    have HB3 := Lib.hid (bseq HB2.out hb)
    clear K2_x K2_p K2_d K2_g HB2
    have K3_u := Lib.hid hR
    clear hR
    have K3_v := Lib.hid hR2
    clear hR2
    clear hb
    clear hap
    go_wp2_with fail
    refine (dDl_any A n c _ (RdB.below hr HB3.out) hm2).mono ?_
    rintro en w4 ⟨Ay, n2, cy, Bz, q2, cz, ys, zs, rfl, hn2, hn2c, hn240, hry, hay, hq2, hq2c, hq28, hrz, haz, hb⟩
    have K4_x := Lib.hid (K3_x.out.below hb)
    have K4_p := Lib.hid (K3_p.out.below hb)
    have K4_d := Lib.hid (K3_d.out.below hb)
    have K4_g := Lib.hid (K3_g.out.below hb)
    have K4_u := Lib.hid (K3_u.out.below hb)
    have K4_v := Lib.hid (K3_v.out.below hb)
    have HB4 := Lib.hid (bseq HB3.out hb)
    clear K3_x K3_p K3_d K3_g K3_u K3_v HB3
    have K4_y := Lib.hid hry
    clear hry
    have K4_z := Lib.hid hrz
    clear hrz
    clear hb
    clear hay haz
    go_wp2_with fail
    refine (iDl_any Ay n2 cy ys Bz q2 cz zs _ hn2 hn2c (by omega) K4_y.out hq2 hq2c (by omega) K4_z.out).mono ?_
    rintro en w5 ⟨rfl, hb⟩
    have K5_x := Lib.hid (K4_x.out.below hb)
    have K5_p := Lib.hid (K4_p.out.below hb)
    have K5_d := Lib.hid (K4_d.out.below hb)
    have K5_g := Lib.hid (K4_g.out.below hb)
    have K5_u := Lib.hid (K4_u.out.below hb)
    have K5_v := Lib.hid (K4_v.out.below hb)
    have K5_y := Lib.hid (K4_y.out.below hb)
    have K5_z := Lib.hid (K4_z.out.below hb)
    have HB5 := Lib.hid (bseq HB4.out hb)
    clear K4_x K4_p K4_d K4_g K4_u K4_v K4_y K4_z HB4
    clear hb
    go_wp2_with fail
    refine (sDl_any Ay n2 cy ys Bz q2 cz zs _ hn2 hn2c (by omega) K5_y.out hq2 hq2c (by omega) K5_z.out).mono ?_
    rintro en w6 ⟨rfl, hb⟩
    have K6_x := Lib.hid (K5_x.out.below hb)
    have K6_p := Lib.hid (K5_p.out.below hb)
    have K6_d := Lib.hid (K5_d.out.below hb)
    have K6_g := Lib.hid (K5_g.out.below hb)
    have K6_u := Lib.hid (K5_u.out.below hb)
    have K6_v := Lib.hid (K5_v.out.below hb)
    have K6_y := Lib.hid (K5_y.out.below hb)
    have K6_z := Lib.hid (K5_z.out.below hb)
    have HB6 := Lib.hid (bseq HB5.out hb)
    clear K5_x K5_p K5_d K5_g K5_u K5_v K5_y K5_z HB5
    clear hb
    obtain ⟨FA, hFA⟩ : ∃ FA, FA = feAll xs ps t m := ⟨_, rfl⟩
    have hfl := (feAll_len xs ps t m)
    have hfm := feAll_most xs ps t m
    have hfc : FA.2.2 ≠ 1 → FA.2.2 ≠ 5 → isSig ps = true ∧ 1 ≤ ps.length := by rw [hFA]; exact fe_code
    have HFC := Lib.hid hfc
    rw [← hFA] at hfl hfm K6_d K6_g K6_u K6_v ⊢
    clear hFA hfc
    obtain ⟨DS, GS, FC⟩ := FA
    dsimp only at hfl hfm HFC K6_d K6_g K6_u K6_v ⊢
    obtain ⟨ND, hND⟩ : ∃ ND, ND = DS.length := ⟨_, rfl⟩
    rw [← hND] at hfl hfm ⊢
    obtain ⟨NG, hNG⟩ : ∃ NG, NG = GS.length := ⟨_, rfl⟩
    rw [← hNG] at hfl ⊢
    obtain ⟨hf1, hf2⟩ := hfl
    obtain rfl : ND = NG := hf2.symm
    have HND := Lib.hid hND.symm
    have HNG := Lib.hid hNG.symm
    clear hND hNG hf2
    obtain ⟨K0, hK0⟩ : ∃ K0, K0 = dlVal ys zs := ⟨_, rfl⟩
    rw [← hK0]
    have HK0 := Lib.hid hK0
    clear hK0
    obtain ⟨K1, hK1⟩ : ∃ K1, K1 = mCode ys zs := ⟨_, rfl⟩
    rw [← hK1]
    have HK1 := Lib.hid hK1
    clear hK1
    have hmx : ¬ (max 0 m < (ND : Int)) := by omega
    have hmy : (m < 0 ∧ ¬ (0 : Int) < ND) ∨ (m = 0 ∧ ¬ (0 : Int) < ND) ∨ (0 < m ∧ ¬ m < (ND : Int)) := by omega
    clear hfm hmx
    rcases hmy with ⟨hm0, hmn⟩ | ⟨rfl, hmn⟩ | ⟨hm0, hmn⟩
    all_goals
      go_wp2_with fail
      refine (likeT_any A_d A_u _ _ c_d c_u DS DS _ HND.out HND.out (by omega) (by omega) K6_d.out.rd K6_u.out.rd rfl).mono ?_
      rintro en w7 ⟨rfl, hb⟩
      have K7_x := Lib.hid (K6_x.out.below hb)
      have K7_p := Lib.hid (K6_p.out.below hb)
      have K7_d := Lib.hid (K6_d.out.below hb)
      have K7_g := Lib.hid (K6_g.out.below hb)
      have K7_u := Lib.hid (K6_u.out.below hb)
      have K7_v := Lib.hid (K6_v.out.below hb)
      have K7_y := Lib.hid (K6_y.out.below hb)
      have K7_z := Lib.hid (K6_z.out.below hb)
      have HB7 := Lib.hid (bseq HB6.out hb)
      clear K6_x K6_p K6_d K6_g K6_u K6_v K6_y K6_z HB6
      clear hb
      go_wp2_with fail
      refine (likeT_any A_g A_v _ _ c_g c_v GS GS _ HNG.out HNG.out (by omega) (by omega) K7_g.out.rd K7_v.out.rd rfl).mono ?_
      rintro en w8 ⟨rfl, hb⟩
      have K8_x := Lib.hid (K7_x.out.below hb)
      have K8_p := Lib.hid (K7_p.out.below hb)
      have K8_d := Lib.hid (K7_d.out.below hb)
      have K8_g := Lib.hid (K7_g.out.below hb)
      have K8_u := Lib.hid (K7_u.out.below hb)
      have K8_v := Lib.hid (K7_v.out.below hb)
      have K8_y := Lib.hid (K7_y.out.below hb)
      have K8_z := Lib.hid (K7_z.out.below hb)
      have HB8 := Lib.hid (bseq HB7.out hb)
      clear K7_x K7_p K7_d K7_g K7_u K7_v K7_y K7_z HB7
      clear hb
      by_cases e1 : FC = 1
      · have hz : (FC == 1) = true := by simpa using e1
        clear e1 HFC
        go_wp2
        go_ret
        exact ⟨rfl, HB8.out⟩
      · have hz : (FC == 1) = false := by simpa using e1
        by_cases e5 : FC = 5
        · have hz5 : (FC == 5) = true := by simpa using e5
          clear e1 e5 HFC
          go_wp2
          go_ret
          exact ⟨rfl, HB8.out⟩
        · have hz5 : (FC == 5) = false := by simpa using e5
          obtain ⟨s1, s2⟩ := HFC.out e1 e5
          rw [hp] at s2
          have HS1 := Lib.hid s1
          clear s1 e1 e5 HFC
          have HBT := Lib.hid HB8.out
          go_wp2_with fail
          refine (roll_any A n c 1003 _ (RdB.below hr HBT.out) hm2).mono ?_
          rintro en w9 ⟨s, rfl, hs1, hD, hrl⟩
          have hzr : w8.heap.size ≤ w9.heap.size := hrl.size
          have HRL := Lib.hid hrl
          have HD9 := Lib.hid hD
          have HG9 := Lib.hid (Gs.refl s w9)
          have lq9 : s < w9.heap.size := hD.lt
          have K9_p := Lib.hid (Rd.rds K8_p.out hs1 hrl)
          clear hD hrl K8_p
          go_wp2_with fail
          refine (dbelow_any s 9 _ (by repeat (first | with_reducible exact HD9.out | with_reducible refine Dice.alloc ?_ _)) (by decide)).mono ?_
          rintro en w10 ⟨g1, rfl, g10, g11, hs, hg1⟩
          have hg : Gs s w9 w10 := Gs.trans (Gs.refl s w9) hg1
          have K10_p := Lib.hid (K9_p.out.gs hg)
          have HG10 : Hid (Gs s w9 w10) := Gs.trans HG9.out hg
          have HD10 := Lib.hid (hs)
          have lq10 : s < w10.heap.size := HD10.out.lt
          clear K9_p HG9 HD9
          clear hs hg hg1
          obtain ⟨g, hg9⟩ : ∃ g : Int, g = 1 + g1 := ⟨_, rfl⟩
          have hgb : 1 ≤ g ∧ g ≤ 9 := by omega
          go_wp2_with fail
          rw [← hg9]
          clear hg9
          have hci := clr_in (ps := ps) (g := g) HS1.out (by omega)
          refine (iClear_any Bp p cp ps g 0 _ hp hpc (by omega) K10_p.out.rd).mono ?_
          rintro en w11 ⟨rfl, mq, hq⟩
          have hb := bquiet hq
          clear hq
          have hg : Gs s w10 w11 := Gs.trans (Gs.refl s w10) (Gs.of_below hb)
          have K11_p := Lib.hid (K10_p.out.gs hg)
          have HG11 : Hid (Gs s w9 w11) := Gs.trans HG10.out hg
          have HD11 := Lib.hid (Dice.below HD10.out hb)
          have lq11 : s < w11.heap.size := HD11.out.lt
          clear K10_p HG10 HD10
          clear hb hg
          rw [hci.1]
          obtain ⟨M0, hM0⟩ : ∃ M0, M0 = clrVal ps g 0 := ⟨_, rfl⟩
          rw [← hM0]
          have HM0 : Hid (M0 = true → clear ps g 0 = true) := by rw [hM0]; exact hci.2
          clear hM0 hci
          go_wp2_with fail
          refine (dbelow_any s 30 _ (by repeat (first | with_reducible exact HD11.out | with_reducible refine Dice.alloc ?_ _)) (by decide)).mono ?_
          rintro en w12 ⟨at0, rfl, at00, at01, hs, hg1⟩
          have hg : Gs s w11 w12 := Gs.trans (Gs.refl s w11) hg1
          have K12_p := Lib.hid (K11_p.out.gs hg)
          have HG12 : Hid (Gs s w9 w12) := Gs.trans HG11.out hg
          have HD12 := Lib.hid (hs)
          have lq12 : s < w12.heap.size := HD12.out.lt
          clear K11_p HG11 HD11
          clear hs hg hg1
          obtain ⟨a, rfl⟩ : ∃ a : Nat, at0 = a := ⟨at0.toNat, by omega⟩
          have hn1 := RdS.alloc (RdS.new (s := s) (w := w12) _ 2 [(a : Int)] rfl lq12) (.cells #[.int .i64 g] 2)
          have hn2 : RdS s ((w12.alloc (.cells #[.int .i64 (a : Int)] 2)).alloc (.cells #[.int .i64 g] 2)) (some ⟨w12.heap.size + 1, 0, none⟩) [g] := RdS.new _ _ [g] (by simp only [World.size_alloc]) (by simp only [World.size_alloc]; omega)
          have HN1 := Lib.hid hn1
          have HN2 := Lib.hid hn2
          clear hn1 hn2
          go_wp2_with fail
          refine (dbelow_any s 30 _ (by repeat (first | with_reducible exact HD12.out | with_reducible refine Dice.alloc ?_ _)) (by decide)).mono ?_
          rintro en w13 ⟨d2, rfl, d20, d21, hs, hg1⟩
          have hg : Gs s w12 w13 := Gs.trans (Gs.alloc (Gs.alloc (Gs.refl s w12) _) _) hg1
          have K13_p := Lib.hid (K12_p.out.gs hg)
          have HG13 : Hid (Gs s w9 w13) := Gs.trans HG12.out hg
          have HD13 := Lib.hid (hs)
          have lq13 : s < w13.heap.size := HD13.out.lt
          clear K12_p HG12 HD12
          clear hs hg
          have K13_1 := Lib.hid (HN1.out.gs hg1)
          have K13_2 := Lib.hid (HN2.out.gs hg1)
          clear HN1 HN2 hg1
          obtain ⟨L, hL⟩ : ∃ L : Int, L = (a : Int) + p + d2 := ⟨_, rfl⟩
          have hL2 : (a : Int) + p ≤ L ∧ L ≤ 400 := by omega
          have hee := ec_one (ps := ps) (a := a) (g := g) (L := L) HS1.out (by rw [hp]; omega) (by omega) (by omega)
          have HEE := Lib.hid hee
          clear hee
          go_wp2_with fail
          rw [← hL]
          clear hL
          refine (iEch_any Bp p cp ps (some ⟨w12.heap.size, 0, none⟩) 1 1 [(a : Int)] (some ⟨w12.heap.size + 1, 0, none⟩) 1 1 [g] L _ hp hpc (by omega) K13_p.out.rd rfl (Nat.le_refl _) (by omega) K13_1.out.rd rfl (Nat.le_refl _) (by omega) K13_2.out.rd).mono ?_
          rintro en w14 ⟨A_e, c_e, rfl, hR, hb⟩
          have hnc9 := hR.2.1
          have hg : Gs s w13 w14 := Gs.trans (Gs.refl s w13) (Gs.of_below hb)
          have K14_p := Lib.hid (K13_p.out.gs hg)
          have K14_1 := Lib.hid (K13_1.out.gs hg)
          have K14_2 := Lib.hid (K13_2.out.gs hg)
          have HG14 : Hid (Gs s w9 w14) := Gs.trans HG13.out hg
          have HD14 := Lib.hid (Dice.below HD13.out hb)
          have lq14 : s < w14.heap.size := HD14.out.lt
          clear K13_p K13_1 K13_2 HG13 HD13
          have K14_e := Lib.hid (OwnR.rds (s := s) hR (by (try simp only [World.size_alloc]); omega))
          clear hR
          clear hb hg
          have hpl : (ecVal ps [(a : Int)] [g] L).length ≤ 1048576 := ecVal_len
          have hnce : (ecVal ps [(a : Int)] [g] L).length ≤ c_e := hnc9
          obtain ⟨X, hX⟩ : ∃ X, X = ecVal ps [(a : Int)] [g] L := ⟨_, rfl⟩
          rw [← hX] at hpl hnce K14_e HEE ⊢
          clear hX
          obtain ⟨N, hN⟩ : ∃ N, N = X.length := ⟨_, rfl⟩
          rw [← hN] at hpl hnce ⊢
          have HN := Lib.hid hN.symm
          clear hN
          obtain ⟨XC, hXC⟩ : ∃ XC, XC = ecCode ps [(a : Int)] [g] L := ⟨_, rfl⟩
          rw [← hXC] at HEE ⊢
          clear hXC

          rcases HEE.out with ⟨hc0, hxe, hsx⟩ | hc3
          rotate_left
          · clear HEE
            subst hc3
            cases M0 with
            | false =>
              go_wp2
              go_ret
              exact ⟨rfl, (bseq HBT.out (HRL.out.trans (Gs.to_below HG14.out hs1 hzr)))⟩
            | true =>
              go_wp2
              go_ret
              exact ⟨rfl, (bseq HBT.out (HRL.out.trans (Gs.to_below HG14.out hs1 hzr)))⟩
          · subst hc0
            subst hxe
            clear HEE
            cases M0 with
            | false =>
              clear hsx
              go_wp2
              go_ret
              exact ⟨rfl, (bseq HBT.out (HRL.out.trans (Gs.to_below HG14.out hs1 hzr)))⟩
            | true =>
              have hcl := HM0.out rfl
              have hfe := fe_one (ps := ps) (a := a) (g := g) (L := L) HS1.out (by rw [hp]; omega) (by omega) (by omega) hcl hsx
              have HFE := Lib.hid hfe
              clear hfe hcl HM0
              have h9 := iFind_any A_e N c_e (ech ps [(a : Int)] [g] L) Bp p cp ps 1 5 w14 HN.out hnce (by omega) K14_e.out.rd hp hpc (by omega) K14_p.out.rd
              rw [HFE.out] at h9
              dsimp only at h9
              go_wp2_with fail
              refine (h9).mono ?_
              rintro en w15 ⟨A_f, c_f, A_h, c_h, rfl, hR, hR2, hap, hb⟩
              have hg : Gs s w14 w15 := Gs.trans (Gs.refl s w14) (Gs.of_below hb)
              have K15_p := Lib.hid (K14_p.out.gs hg)
              have K15_1 := Lib.hid (K14_1.out.gs hg)
              have K15_2 := Lib.hid (K14_2.out.gs hg)
              have K15_e := Lib.hid (K14_e.out.gs hg)
              have HG15 : Hid (Gs s w9 w15) := Gs.trans HG14.out hg
              have HD15 := Lib.hid (Dice.below HD14.out hb)
              have lq15 : s < w15.heap.size := HD15.out.lt
              clear K14_p K14_1 K14_2 K14_e HG14 HD14
              have K15_f := Lib.hid (OwnR.rds (s := s) hR (by (try simp only [World.size_alloc]); omega))
              clear hR
              have K15_h := Lib.hid (OwnR.rds (s := s) hR2 (by (try simp only [World.size_alloc]); omega))
              clear hR2
              clear hb hg
              clear hap
              go_wp2_with fail
              refine (likeT_any A_f _ _ _ c_f _ [(a : Int)] [(a : Int)] _ rfl rfl (by simp) (by simp) (K15_f.out.alloc _).rd (Rd.new w15 _ [(a : Int)]) rfl).mono ?_
              rintro en w16 ⟨rfl, hb⟩
              have hg : Gs s w15 w16 := Gs.trans (Gs.alloc (Gs.refl s w15) _) (Gs.of_below hb)
              have hb9 : Below w15.heap.size w15 w16 := by
                refine Below.trans ?_ (hb.mono ?_)
                · repeat (first | exact Below.refl _ _ | (refine Below.alloc ?_ ?_ _; rotate_left; ((try simp only [World.size_alloc]); omega)))
                · (try simp only [World.size_alloc]); omega
              have K16_p := Lib.hid (K15_p.out.gs hg)
              have K16_1 := Lib.hid (K15_1.out.gs hg)
              have K16_2 := Lib.hid (K15_2.out.gs hg)
              have K16_e := Lib.hid (K15_e.out.gs hg)
              have K16_f := Lib.hid (K15_f.out.gs hg)
              have K16_h := Lib.hid (K15_h.out.gs hg)
              have HG16 : Hid (Gs s w9 w16) := Gs.trans HG15.out hg
              have HD16 := Lib.hid (Dice.below HD15.out hb9)
              have lq16 : s < w16.heap.size := HD16.out.lt
              clear K15_p K15_1 K15_2 K15_e K15_f K15_h HG15 HD15
              clear hb9
              clear hb hg
              go_wp2_with fail
              refine (likeT_any A_h _ _ _ c_h _ [g] [g] _ rfl rfl (by simp) (by simp) (K16_h.out.alloc _).rd (Rd.new w16 _ [g]) rfl).mono ?_
              rintro en w17 ⟨rfl, hb⟩
              have hg : Gs s w16 w17 := Gs.trans (Gs.alloc (Gs.refl s w16) _) (Gs.of_below hb)
              have hb9 : Below w16.heap.size w16 w17 := by
                refine Below.trans ?_ (hb.mono ?_)
                · repeat (first | exact Below.refl _ _ | (refine Below.alloc ?_ ?_ _; rotate_left; ((try simp only [World.size_alloc]); omega)))
                · (try simp only [World.size_alloc]); omega
              have K17_p := Lib.hid (K16_p.out.gs hg)
              have K17_1 := Lib.hid (K16_1.out.gs hg)
              have K17_2 := Lib.hid (K16_2.out.gs hg)
              have K17_e := Lib.hid (K16_e.out.gs hg)
              have K17_f := Lib.hid (K16_f.out.gs hg)
              have K17_h := Lib.hid (K16_h.out.gs hg)
              have HG17 : Hid (Gs s w9 w17) := Gs.trans HG16.out hg
              have HD17 := Lib.hid (Dice.below HD16.out hb9)
              have lq17 : s < w17.heap.size := HD17.out.lt
              clear K16_p K16_1 K16_2 K16_e K16_f K16_h HG16 HD16
              clear hb9
              clear hb hg
              go_wp2
              go_ret
              exact ⟨rfl, (bseq HBT.out (HRL.out.trans (Gs.to_below HG17.out hs1 hzr)))⟩
end Go.Proofs.Ytgfhmihnnjcagaa
