/- the law, walked: FindEchoes -/
import Derived.Test.YtgfhmihnnjcagaaW16
import Derived.Test.YtgfhmihnnjcagaaW17
set_option linter.unusedVariables false
set_option linter.unusedSimpArgs false
namespace Go.Proofs.Ytgfhmihnnjcagaa
open Go.RowKit
set_option maxRecDepth 100000 in
set_option maxHeartbeats 4000000 in
theorem lawFind_any (A : Option Addr) (n c : Nat) (xs : List Int) (B : Option Addr) (p d : Nat) (ps : List Int) (t : Int) (m : Int) (w : World) (hn_xs : xs.length = n) (hc_xs : n ≤ c) (hr_xs : Rd w A xs) (hn_ps : ps.length = p) (hc_ps : p ≤ d) (hr_ps : Rd w B ps) :
    Calls Try.prog 18 #[.slice A n c, .slice B p d, .int .i64 t, .int .i64 m] w fun en w9 => en = .returned (.bool true) ∧ Below w.heap.size w w9 := by
  by_cases hbig_xs : 1048576 < n
  · go_enter Try.func18, Try.ntmps18
    go_wp2
    go_ret
    exact ⟨rfl, Below.refl _ _⟩
  by_cases hbig_ps : 1048576 < p
  · go_enter Try.func18, Try.ntmps18
    go_wp2
    go_ret
    exact ⟨rfl, Below.refl _ _⟩
  go_enter Try.func18, Try.ntmps18
  have hL0 : ((feAll xs ps t m).1).length ≤ 1048576 := (by have := feAll_len xs ps t m; omega)
  have hL1 : ((feAll xs ps t m).2.1).length ≤ 1048576 := (by have := feAll_len xs ps t m; omega)
  go_wp2_with fail
  refine (toInt64S_any A n c xs _ hn_xs (by omega) hr_xs).mono ?_
  rintro en w1 ⟨rfl, hz1, hc1, hb1⟩
  have ho1 := OwnR.of_cells hn_xs (Nat.lt_of_succ_le hz1) hc1
  go_wp2_with fail
  refine (toInt64S_any B p d ps _ hn_ps (by omega) (hr_ps.below hb1)).mono ?_
  rintro en w2 ⟨rfl, hz2, hc2, hb2⟩
  have q2_base := bseq hb1 hb2
  have q2_r_xs := bseq hb1 hb2
  have q2_r_ps := bseq hb1 hb2
  have ho2 := OwnR.of_cells hn_ps (Nat.lt_of_succ_le hz2) hc2
  go_wp2_with fail
  refine (sFind_any _ n n xs _ p p ps t m _ hn_xs (Nat.le_refl _) (by omega) (ho1.below hb2).rd hn_ps (Nat.le_refl _) (by omega) ho2.rd).mono ?_
  rintro en w3 ⟨A0_3, c0_3, A1_3, c1_3, rfl, ho0_3, ho1_3, hap3, hb3⟩
  have q3_base := bseq q2_base hb3
  have q3_r_xs := bseq q2_r_xs hb3
  have q3_r_ps := bseq q2_r_ps hb3
  have q3_s0 := bseq hb2 hb3
  go_wp2_with fail
  refine (toInt64S_any A n c xs _ hn_xs (by omega) (hr_xs.below q3_r_xs)).mono ?_
  rintro en w4 ⟨rfl, hz4, hc4, hb4⟩
  have q4_base := bseq q3_base hb4
  have q4_r_xs := bseq q3_r_xs hb4
  have q4_r_ps := bseq q3_r_ps hb4
  have ho4 := OwnR.of_cells hn_xs (Nat.lt_of_succ_le hz4) hc4
  go_wp2_with fail
  refine (toInt64S_any B p d ps _ hn_ps (by omega) (hr_ps.below q4_r_ps)).mono ?_
  rintro en w5 ⟨rfl, hz5, hc5, hb5⟩
  have q5_base := bseq q4_base hb5
  have q5_r_xs := bseq q4_r_xs hb5
  have q5_r_ps := bseq q4_r_ps hb5
  have q5_W0 := bseq hb4 hb5
  have q5_W1 := bseq hb4 hb5
  have ho5 := OwnR.of_cells hn_ps (Nat.lt_of_succ_le hz5) hc5
  go_wp2_with fail
  refine (iFind_any _ n n xs _ p p ps t m _ hn_xs (Nat.le_refl _) (by omega) (ho4.below hb5).rd hn_ps (Nat.le_refl _) (by omega) ho5.rd).mono ?_
  rintro en w6 ⟨A0_6, c0_6, A1_6, c1_6, rfl, ho0_6, ho1_6, hap6, hb6⟩
  have q6_base := bseq q5_base hb6
  have q6_r_xs := bseq q5_r_xs hb6
  have q6_r_ps := bseq q5_r_ps hb6
  have q6_W0 := bseq q5_W0 hb6
  have q6_W1 := bseq q5_W1 hb6
  have q6_x0 := bseq hb5 hb6
  go_wp2_with fail
  refine (eqInt64S_any _ _ ((feAll xs ps t m).1).length ((feAll xs ps t m).1).length c0_6 c0_3 ((feAll xs ps t m).1) ((feAll xs ps t m).1) _ rfl rfl (by omega) (by omega) ho0_6.rd (ho0_3.below q6_W0).rd).mono ?_
  rintro en w7 ⟨rfl, hb7⟩
  have q7_base := bseq q6_base hb7
  have q7_r_xs := bseq q6_r_xs hb7
  have q7_r_ps := bseq q6_r_ps hb7
  have q7_W0 := bseq q6_W0 hb7
  have q7_W1 := bseq q6_W1 hb7
  have q7_x0 := bseq q6_x0 hb7
  have q7_x1 := bseq hb6 hb7
  rw [decide_eq_true rfl]
  go_wp2_with fail
  refine (eqInt64S_any _ _ ((feAll xs ps t m).2.1).length ((feAll xs ps t m).2.1).length c1_6 c1_3 ((feAll xs ps t m).2.1) ((feAll xs ps t m).2.1) _ rfl rfl (by omega) (by omega) (ho1_6.below hb7).rd (ho1_3.below q7_W1).rd).mono ?_
  rintro en w8 ⟨rfl, hb8⟩
  have q8_base := bseq q7_base hb8
  have q8_r_xs := bseq q7_r_xs hb8
  have q8_r_ps := bseq q7_r_ps hb8
  have q8_W0 := bseq q7_W0 hb8
  have q8_W1 := bseq q7_W1 hb8
  have q8_x0 := bseq q7_x0 hb8
  have q8_x1 := bseq q7_x1 hb8
  have q8_G0 := bseq hb7 hb8
  have q8_G1 := bseq hb7 hb8
  rw [decide_eq_true rfl]
  go_wp2_with fail
  refine (toInt64S_any A n c xs _ hn_xs (by omega) (hr_xs.below q8_r_xs)).mono ?_
  rintro en w9 ⟨rfl, hz9, hc9, hb9⟩
  have q9_base := bseq q8_base hb9
  have q9_r_xs := bseq q8_r_xs hb9
  have q9_r_ps := bseq q8_r_ps hb9
  have q9_W0 := bseq q8_W0 hb9
  have q9_W1 := bseq q8_W1 hb9
  have q9_x0 := bseq q8_x0 hb9
  have q9_x1 := bseq q8_x1 hb9
  have q9_G0 := bseq q8_G0 hb9
  have q9_G1 := bseq q8_G1 hb9
  have ho9 := OwnR.of_cells hn_xs (Nat.lt_of_succ_le hz9) hc9
  go_wp2_with fail
  refine (eqInt64S_any _ _ n n n n xs xs _ hn_xs hn_xs (by omega) (by omega) (ho4.below q9_x0).rd ho9.rd).mono ?_
  rintro en w10 ⟨rfl, hb10⟩
  have q10_base := bseq q9_base hb10
  have q10_r_xs := bseq q9_r_xs hb10
  have q10_r_ps := bseq q9_r_ps hb10
  have q10_W0 := bseq q9_W0 hb10
  have q10_W1 := bseq q9_W1 hb10
  have q10_x0 := bseq q9_x0 hb10
  have q10_x1 := bseq q9_x1 hb10
  have q10_G0 := bseq q9_G0 hb10
  have q10_G1 := bseq q9_G1 hb10
  rw [decide_eq_true rfl]
  go_wp2_with fail
  refine (toInt64S_any B p d ps _ hn_ps (by omega) (hr_ps.below q10_r_ps)).mono ?_
  rintro en w11 ⟨rfl, hz11, hc11, hb11⟩
  have q11_base := bseq q10_base hb11
  have q11_r_xs := bseq q10_r_xs hb11
  have q11_r_ps := bseq q10_r_ps hb11
  have q11_W0 := bseq q10_W0 hb11
  have q11_W1 := bseq q10_W1 hb11
  have q11_x0 := bseq q10_x0 hb11
  have q11_x1 := bseq q10_x1 hb11
  have q11_G0 := bseq q10_G0 hb11
  have q11_G1 := bseq q10_G1 hb11
  have ho11 := OwnR.of_cells hn_ps (Nat.lt_of_succ_le hz11) hc11
  go_wp2_with fail
  refine (eqInt64S_any _ _ p p p p ps ps _ hn_ps hn_ps (by omega) (by omega) (ho5.below q11_x1).rd ho11.rd).mono ?_
  rintro en w12 ⟨rfl, hb12⟩
  have q12_base := bseq q11_base hb12
  have q12_r_xs := bseq q11_r_xs hb12
  have q12_r_ps := bseq q11_r_ps hb12
  have q12_W0 := bseq q11_W0 hb12
  have q12_W1 := bseq q11_W1 hb12
  have q12_x0 := bseq q11_x0 hb12
  have q12_x1 := bseq q11_x1 hb12
  have q12_G0 := bseq q11_G0 hb12
  have q12_G1 := bseq q11_G1 hb12
  rw [decide_eq_true rfl]
  go_wp2_with fail
  refine (mark_any (some ⟨w3.heap.size, 0, none⟩) n n w3.heap.size xs 1 _ (ho4.below q12_x0) (by omega) (by omega) (by omega)).mono ?_
  rintro en w13 ⟨rfl, hm13, hg13⟩
  have q13_base := Below.grown q12_base hg13 q12_base.size (fun k hk => Nat.le_trans q3_base.size (OwnR.ge (ho4.below q12_x0) k hk))
  have q13_r_xs := Below.grown q12_r_xs hg13 q12_r_xs.size (fun k hk => Nat.le_trans q3_r_xs.size (OwnR.ge (ho4.below q12_x0) k hk))
  have q13_r_ps := Below.grown q12_r_ps hg13 q12_r_ps.size (fun k hk => Nat.le_trans q3_r_ps.size (OwnR.ge (ho4.below q12_x0) k hk))
  have q13_W0 := Below.grown q12_W0 hg13 q12_W0.size (fun k hk => Nat.le_trans (Nat.le_refl _) (OwnR.ge (ho4.below q12_x0) k hk))
  have q13_W1 := Below.grown q12_W1 hg13 q12_W1.size (fun k hk => Nat.le_trans (Nat.le_refl _) (OwnR.ge (ho4.below q12_x0) k hk))
  have f13_x1 := OwnR.far (ho5.below q12_x1) (g2 := w3.heap.size) hg13 (Nat.lt_of_lt_of_le (Nat.lt_of_succ_le hz4) (Nat.le_refl _))
  have f13_G0 := OwnR.far (ho0_6.below q12_G0) (g2 := w3.heap.size) hg13 (Nat.lt_of_lt_of_le (Nat.lt_of_succ_le hz4) hb5.size)
  have f13_G1 := OwnR.far (ho1_6.below q12_G1) (g2 := w3.heap.size) hg13 (Nat.lt_of_lt_of_le (Nat.lt_of_succ_le hz4) hb5.size)
  go_wp2_with fail
  refine (mark_any (some ⟨w4.heap.size, 0, none⟩) p p w4.heap.size ps (1 + (n : Int)) _ f13_x1 (by omega) (by omega) (by omega)).mono ?_
  rintro en w14 ⟨rfl, hm14, hg14⟩
  have q14_base := Below.grown q13_base hg14 q13_base.size (fun k hk => Nat.le_trans q4_base.size (OwnR.ge f13_x1 k hk))
  have q14_r_xs := Below.grown q13_r_xs hg14 q13_r_xs.size (fun k hk => Nat.le_trans q4_r_xs.size (OwnR.ge f13_x1 k hk))
  have q14_r_ps := Below.grown q13_r_ps hg14 q13_r_ps.size (fun k hk => Nat.le_trans q4_r_ps.size (OwnR.ge f13_x1 k hk))
  have q14_W0 := Below.grown q13_W0 hg14 q13_W0.size (fun k hk => Nat.le_trans hb4.size (OwnR.ge f13_x1 k hk))
  have q14_W1 := Below.grown q13_W1 hg14 q13_W1.size (fun k hk => Nat.le_trans hb4.size (OwnR.ge f13_x1 k hk))
  have f14_G0 := OwnR.far f13_G0 (g2 := w4.heap.size) hg14 (Nat.lt_of_lt_of_le (Nat.lt_of_succ_le hz5) (Nat.le_refl _))
  have f14_G1 := OwnR.far f13_G1 (g2 := w4.heap.size) hg14 (Nat.lt_of_lt_of_le (Nat.lt_of_succ_le hz5) (Nat.le_refl _))
  go_wp2_with fail
  refine (eqInt64S_any _ _ ((feAll xs ps t m).1).length ((feAll xs ps t m).1).length c0_6 c0_3 ((feAll xs ps t m).1) ((feAll xs ps t m).1) _ rfl rfl (by omega) (by omega) f14_G0.rd (ho0_3.below q14_W0).rd).mono ?_
  rintro en w15 ⟨rfl, hb15⟩
  have q15_base := bseq q14_base hb15
  have q15_r_xs := bseq q14_r_xs hb15
  have q15_r_ps := bseq q14_r_ps hb15
  have q15_W0 := bseq q14_W0 hb15
  have q15_W1 := bseq q14_W1 hb15
  rw [decide_eq_true rfl]
  go_wp2_with fail
  refine (eqInt64S_any _ _ ((feAll xs ps t m).2.1).length ((feAll xs ps t m).2.1).length c1_6 c1_3 ((feAll xs ps t m).2.1) ((feAll xs ps t m).2.1) _ rfl rfl (by omega) (by omega) (f14_G1.below hb15).rd (ho1_3.below q15_W1).rd).mono ?_
  rintro en w16 ⟨rfl, hb16⟩
  have q16_base := bseq q15_base hb16
  have q16_r_xs := bseq q15_r_xs hb16
  have q16_r_ps := bseq q15_r_ps hb16
  have q16_W0 := bseq q15_W0 hb16
  have q16_W1 := bseq q15_W1 hb16
  have q16_G0 := bseq hb15 hb16
  have q16_G1 := bseq hb15 hb16
  rw [decide_eq_true rfl]
  go_wp2_with fail
  refine (mark_any A0_6 ((feAll xs ps t m).1).length c0_6 w5.heap.size ((feAll xs ps t m).1) 1 _ (f14_G0.below q16_G0) (by omega) (by omega) (by omega)).mono ?_
  rintro en w17 ⟨rfl, hm17, hg17⟩
  have q17_base := Below.grown q16_base hg17 q16_base.size (fun k hk => Nat.le_trans q5_base.size (OwnR.ge (f14_G0.below q16_G0) k hk))
  have q17_r_xs := Below.grown q16_r_xs hg17 q16_r_xs.size (fun k hk => Nat.le_trans q5_r_xs.size (OwnR.ge (f14_G0.below q16_G0) k hk))
  have q17_r_ps := Below.grown q16_r_ps hg17 q16_r_ps.size (fun k hk => Nat.le_trans q5_r_ps.size (OwnR.ge (f14_G0.below q16_G0) k hk))
  have q17_W0 := Below.grown q16_W0 hg17 q16_W0.size (fun k hk => Nat.le_trans q5_W0.size (OwnR.ge (f14_G0.below q16_G0) k hk))
  have q17_W1 := Below.grown q16_W1 hg17 q16_W1.size (fun k hk => Nat.le_trans q5_W1.size (OwnR.ge (f14_G0.below q16_G0) k hk))
  have f17_G1 := OwnR.apart (f14_G1.below q16_G1) hg17 hap6
  go_wp2_with fail
  refine (mark_any A1_6 ((feAll xs ps t m).2.1).length c1_6 w5.heap.size ((feAll xs ps t m).2.1) (1 + (((feAll xs ps t m).1).length : Int)) _ f17_G1 (by omega) (by omega) (by omega)).mono ?_
  rintro en w18 ⟨rfl, hm18, hg18⟩
  have q18_base := Below.grown q17_base hg18 q17_base.size (fun k hk => Nat.le_trans q5_base.size (OwnR.ge f17_G1 k hk))
  have q18_r_xs := Below.grown q17_r_xs hg18 q17_r_xs.size (fun k hk => Nat.le_trans q5_r_xs.size (OwnR.ge f17_G1 k hk))
  have q18_r_ps := Below.grown q17_r_ps hg18 q17_r_ps.size (fun k hk => Nat.le_trans q5_r_ps.size (OwnR.ge f17_G1 k hk))
  have q18_W0 := Below.grown q17_W0 hg18 q17_W0.size (fun k hk => Nat.le_trans q5_W0.size (OwnR.ge f17_G1 k hk))
  have q18_W1 := Below.grown q17_W1 hg18 q17_W1.size (fun k hk => Nat.le_trans q5_W1.size (OwnR.ge f17_G1 k hk))
  have f18_G0 := OwnR.apart hm17 hg18 (Apart.symm hap6)
  go_wp2_with fail
  refine (held_any A0_6 ((feAll xs ps t m).1).length c0_6 w5.heap.size 1 _ f18_G0 (by omega) (by omega) (by omega)).mono ?_
  rintro en wh1 ⟨rfl, rfl⟩
  go_wp2_with fail
  refine (held_any A1_6 ((feAll xs ps t m).2.1).length c1_6 w5.heap.size (1 + (((feAll xs ps t m).1).length : Int)) _ hm18 (by omega) (by omega) (by omega)).mono ?_
  rintro en wh2 ⟨rfl, rfl⟩
  go_wp2_with fail
  refine (toInt64S_any A n c xs _ hn_xs (by omega) (hr_xs.below q18_r_xs)).mono ?_
  rintro en w19 ⟨rfl, hz19, hc19, hb19⟩
  have q19_base := bseq q18_base hb19
  have q19_r_xs := bseq q18_r_xs hb19
  have q19_r_ps := bseq q18_r_ps hb19
  have q19_W0 := bseq q18_W0 hb19
  have q19_W1 := bseq q18_W1 hb19
  have ho19 := OwnR.of_cells hn_xs (Nat.lt_of_succ_le hz19) hc19
  go_wp2_with fail
  refine (toInt64S_any B p d ps _ hn_ps (by omega) (hr_ps.below q19_r_ps)).mono ?_
  rintro en w20 ⟨rfl, hz20, hc20, hb20⟩
  have q20_base := bseq q19_base hb20
  have q20_r_xs := bseq q19_r_xs hb20
  have q20_r_ps := bseq q19_r_ps hb20
  have q20_W0 := bseq q19_W0 hb20
  have q20_W1 := bseq q19_W1 hb20
  have q20_G0 := bseq hb19 hb20
  have q20_G1 := bseq hb19 hb20
  have ho20 := OwnR.of_cells hn_ps (Nat.lt_of_succ_le hz20) hc20
  go_wp2_with fail
  refine (iFind_any _ n n xs _ p p ps t m _ hn_xs (Nat.le_refl _) (by omega) (ho19.below hb20).rd hn_ps (Nat.le_refl _) (by omega) ho20.rd).mono ?_
  rintro en w21 ⟨A0_21, c0_21, A1_21, c1_21, rfl, ho0_21, ho1_21, hap21, hb21⟩
  have q21_base := bseq q20_base hb21
  have q21_r_xs := bseq q20_r_xs hb21
  have q21_r_ps := bseq q20_r_ps hb21
  have q21_W0 := bseq q20_W0 hb21
  have q21_W1 := bseq q20_W1 hb21
  have q21_G0 := bseq q20_G0 hb21
  have q21_G1 := bseq q20_G1 hb21
  have q21_h0 := bseq hb20 hb21
  go_wp2_with fail
  refine (eqInt64S_any _ _ ((feAll xs ps t m).1).length ((feAll xs ps t m).1).length c0_21 c0_3 ((feAll xs ps t m).1) ((feAll xs ps t m).1) _ rfl rfl (by omega) (by omega) ho0_21.rd (ho0_3.below q21_W0).rd).mono ?_
  rintro en w22 ⟨rfl, hb22⟩
  have q22_base := bseq q21_base hb22
  have q22_r_xs := bseq q21_r_xs hb22
  have q22_r_ps := bseq q21_r_ps hb22
  have q22_W0 := bseq q21_W0 hb22
  have q22_W1 := bseq q21_W1 hb22
  have q22_G0 := bseq q21_G0 hb22
  have q22_G1 := bseq q21_G1 hb22
  rw [decide_eq_true rfl]
  go_wp2_with fail
  refine (eqInt64S_any _ _ ((feAll xs ps t m).2.1).length ((feAll xs ps t m).2.1).length c1_21 c1_3 ((feAll xs ps t m).2.1) ((feAll xs ps t m).2.1) _ rfl rfl (by omega) (by omega) (ho1_21.below hb22).rd (ho1_3.below q22_W1).rd).mono ?_
  rintro en w23 ⟨rfl, hb23⟩
  have q23_base := bseq q22_base hb23
  have q23_r_xs := bseq q22_r_xs hb23
  have q23_r_ps := bseq q22_r_ps hb23
  have q23_W0 := bseq q22_W0 hb23
  have q23_W1 := bseq q22_W1 hb23
  have q23_G0 := bseq q22_G0 hb23
  have q23_G1 := bseq q22_G1 hb23
  have q23_H0 := bseq hb22 hb23
  have q23_H1 := bseq hb22 hb23
  rw [decide_eq_true rfl]
  go_wp2_with fail
  refine (held_any A0_6 ((feAll xs ps t m).1).length c0_6 w5.heap.size 1 _ (f18_G0.below q23_G0) (by omega) (by omega) (by omega)).mono ?_
  rintro en wh3 ⟨rfl, rfl⟩
  go_wp2_with fail
  refine (held_any A1_6 ((feAll xs ps t m).2.1).length c1_6 w5.heap.size (1 + (((feAll xs ps t m).1).length : Int)) _ (hm18.below q23_G1) (by omega) (by omega) (by omega)).mono ?_
  rintro en wh4 ⟨rfl, rfl⟩
  go_wp2
  go_ret
  exact ⟨rfl, q23_base⟩
end Go.Proofs.Ytgfhmihnnjcagaa
