/- the law, walked: EchoesOf -/
import Derived.Test.YtgfhmihnnjcagaaW13
import Derived.Test.YtgfhmihnnjcagaaMark
set_option linter.unusedVariables false
set_option linter.unusedSimpArgs false
namespace Go.Proofs.Ytgfhmihnnjcagaa
open Go.RowKit
set_option maxHeartbeats 4000000 in
theorem lawEch_any (A : Option Addr) (n c : Nat) (ps : List Int) (B : Option Addr) (m d : Nat) (ds : List Int) (G : Option Addr) (k e : Nat) (gs : List Int) (L : Int) (w : World) (hn_ps : ps.length = n) (hc_ps : n ≤ c) (hr_ps : Rd w A ps) (hn_ds : ds.length = m) (hc_ds : m ≤ d) (hr_ds : Rd w B ds) (hn_gs : gs.length = k) (hc_gs : k ≤ e) (hr_gs : Rd w G gs) :
    Calls Try.prog 8 #[.slice A n c, .slice B m d, .slice G k e, .int .i64 L] w fun en w9 => en = .returned (.bool true) ∧ Below w.heap.size w w9 := by
  by_cases hbig_ps : 1048576 < n
  · go_enter Try.func8, Try.ntmps8
    go_wp2
    go_ret
    exact ⟨rfl, Below.refl _ _⟩
  by_cases hbig_ds : 1048576 < m
  · go_enter Try.func8, Try.ntmps8
    go_wp2
    go_ret
    exact ⟨rfl, Below.refl _ _⟩
  by_cases hbig_gs : 1048576 < k
  · go_enter Try.func8, Try.ntmps8
    go_wp2
    go_ret
    exact ⟨rfl, Below.refl _ _⟩
  go_enter Try.func8, Try.ntmps8
  have hL0 : (ecVal ps ds gs L).length ≤ 1048576 := ecVal_len
  go_wp2_with fail
  refine (toInt64S_any A n c ps _ hn_ps (by omega) hr_ps).mono ?_
  rintro en w1 ⟨rfl, hz1, hc1, hb1⟩
  have ho1 := OwnR.of_cells hn_ps (Nat.lt_of_succ_le hz1) hc1
  go_wp2_with fail
  refine (toInt64S_any B m d ds _ hn_ds (by omega) (hr_ds.below hb1)).mono ?_
  rintro en w2 ⟨rfl, hz2, hc2, hb2⟩
  have q2_base := bseq hb1 hb2
  have q2_r_ps := bseq hb1 hb2
  have q2_r_ds := bseq hb1 hb2
  have q2_r_gs := bseq hb1 hb2
  have ho2 := OwnR.of_cells hn_ds (Nat.lt_of_succ_le hz2) hc2
  go_wp2_with fail
  refine (toInt64S_any G k e gs _ hn_gs (by omega) (hr_gs.below q2_r_gs)).mono ?_
  rintro en w3 ⟨rfl, hz3, hc3, hb3⟩
  have q3_base := bseq q2_base hb3
  have q3_r_ps := bseq q2_r_ps hb3
  have q3_r_ds := bseq q2_r_ds hb3
  have q3_r_gs := bseq q2_r_gs hb3
  have q3_s0 := bseq hb2 hb3
  have ho3 := OwnR.of_cells hn_gs (Nat.lt_of_succ_le hz3) hc3
  go_wp2_with fail
  refine (sEch_any _ n n ps _ m m ds _ k k gs L _ hn_ps (Nat.le_refl _) (by omega) (ho1.below q3_s0).rd hn_ds (Nat.le_refl _) (by omega) (ho2.below hb3).rd hn_gs (Nat.le_refl _) (by omega) ho3.rd).mono ?_
  rintro en w4 ⟨A0_4, c0_4, rfl, ho0_4, hb4⟩
  have q4_base := bseq q3_base hb4
  have q4_r_ps := bseq q3_r_ps hb4
  have q4_r_ds := bseq q3_r_ds hb4
  have q4_r_gs := bseq q3_r_gs hb4
  have q4_s0 := bseq q3_s0 hb4
  have q4_s1 := bseq hb3 hb4
  go_wp2_with fail
  refine (toInt64S_any A n c ps _ hn_ps (by omega) (hr_ps.below q4_r_ps)).mono ?_
  rintro en w5 ⟨rfl, hz5, hc5, hb5⟩
  have q5_base := bseq q4_base hb5
  have q5_r_ps := bseq q4_r_ps hb5
  have q5_r_ds := bseq q4_r_ds hb5
  have q5_r_gs := bseq q4_r_gs hb5
  have ho5 := OwnR.of_cells hn_ps (Nat.lt_of_succ_le hz5) hc5
  go_wp2_with fail
  refine (toInt64S_any B m d ds _ hn_ds (by omega) (hr_ds.below q5_r_ds)).mono ?_
  rintro en w6 ⟨rfl, hz6, hc6, hb6⟩
  have q6_base := bseq q5_base hb6
  have q6_r_ps := bseq q5_r_ps hb6
  have q6_r_ds := bseq q5_r_ds hb6
  have q6_r_gs := bseq q5_r_gs hb6
  have q6_W0 := bseq hb5 hb6
  have ho6 := OwnR.of_cells hn_ds (Nat.lt_of_succ_le hz6) hc6
  go_wp2_with fail
  refine (toInt64S_any G k e gs _ hn_gs (by omega) (hr_gs.below q6_r_gs)).mono ?_
  rintro en w7 ⟨rfl, hz7, hc7, hb7⟩
  have q7_base := bseq q6_base hb7
  have q7_r_ps := bseq q6_r_ps hb7
  have q7_r_ds := bseq q6_r_ds hb7
  have q7_r_gs := bseq q6_r_gs hb7
  have q7_W0 := bseq q6_W0 hb7
  have q7_x0 := bseq hb6 hb7
  have ho7 := OwnR.of_cells hn_gs (Nat.lt_of_succ_le hz7) hc7
  go_wp2_with fail
  refine (iEch_any _ n n ps _ m m ds _ k k gs L _ hn_ps (Nat.le_refl _) (by omega) (ho5.below q7_x0).rd hn_ds (Nat.le_refl _) (by omega) (ho6.below hb7).rd hn_gs (Nat.le_refl _) (by omega) ho7.rd).mono ?_
  rintro en w8 ⟨A0_8, c0_8, rfl, ho0_8, hb8⟩
  have q8_base := bseq q7_base hb8
  have q8_r_ps := bseq q7_r_ps hb8
  have q8_r_ds := bseq q7_r_ds hb8
  have q8_r_gs := bseq q7_r_gs hb8
  have q8_W0 := bseq q7_W0 hb8
  have q8_x0 := bseq q7_x0 hb8
  have q8_x1 := bseq hb7 hb8
  go_wp2_with fail
  refine (eqInt64S_any _ _ (ecVal ps ds gs L).length (ecVal ps ds gs L).length c0_8 c0_4 (ecVal ps ds gs L) (ecVal ps ds gs L) _ rfl rfl (by omega) (by omega) ho0_8.rd (ho0_4.below q8_W0).rd).mono ?_
  rintro en w9 ⟨rfl, hb9⟩
  have q9_base := bseq q8_base hb9
  have q9_r_ps := bseq q8_r_ps hb9
  have q9_r_ds := bseq q8_r_ds hb9
  have q9_r_gs := bseq q8_r_gs hb9
  have q9_W0 := bseq q8_W0 hb9
  have q9_x0 := bseq q8_x0 hb9
  have q9_x1 := bseq q8_x1 hb9
  have q9_x2 := bseq hb8 hb9
  rw [decide_eq_true rfl]
  go_wp2_with fail
  refine (toInt64S_any A n c ps _ hn_ps (by omega) (hr_ps.below q9_r_ps)).mono ?_
  rintro en w10 ⟨rfl, hz10, hc10, hb10⟩
  have q10_base := bseq q9_base hb10
  have q10_r_ps := bseq q9_r_ps hb10
  have q10_r_ds := bseq q9_r_ds hb10
  have q10_r_gs := bseq q9_r_gs hb10
  have q10_W0 := bseq q9_W0 hb10
  have q10_x0 := bseq q9_x0 hb10
  have q10_x1 := bseq q9_x1 hb10
  have q10_x2 := bseq q9_x2 hb10
  have q10_G0 := bseq hb9 hb10
  have ho10 := OwnR.of_cells hn_ps (Nat.lt_of_succ_le hz10) hc10
  go_wp2_with fail
  refine (eqInt64S_any _ _ n n n n ps ps _ hn_ps hn_ps (by omega) (by omega) (ho5.below q10_x0).rd ho10.rd).mono ?_
  rintro en w11 ⟨rfl, hb11⟩
  have q11_base := bseq q10_base hb11
  have q11_r_ps := bseq q10_r_ps hb11
  have q11_r_ds := bseq q10_r_ds hb11
  have q11_r_gs := bseq q10_r_gs hb11
  have q11_W0 := bseq q10_W0 hb11
  have q11_x0 := bseq q10_x0 hb11
  have q11_x1 := bseq q10_x1 hb11
  have q11_x2 := bseq q10_x2 hb11
  have q11_G0 := bseq q10_G0 hb11
  rw [decide_eq_true rfl]
  go_wp2_with fail
  refine (toInt64S_any B m d ds _ hn_ds (by omega) (hr_ds.below q11_r_ds)).mono ?_
  rintro en w12 ⟨rfl, hz12, hc12, hb12⟩
  have q12_base := bseq q11_base hb12
  have q12_r_ps := bseq q11_r_ps hb12
  have q12_r_ds := bseq q11_r_ds hb12
  have q12_r_gs := bseq q11_r_gs hb12
  have q12_W0 := bseq q11_W0 hb12
  have q12_x0 := bseq q11_x0 hb12
  have q12_x1 := bseq q11_x1 hb12
  have q12_x2 := bseq q11_x2 hb12
  have q12_G0 := bseq q11_G0 hb12
  have ho12 := OwnR.of_cells hn_ds (Nat.lt_of_succ_le hz12) hc12
  go_wp2_with fail
  refine (eqInt64S_any _ _ m m m m ds ds _ hn_ds hn_ds (by omega) (by omega) (ho6.below q12_x1).rd ho12.rd).mono ?_
  rintro en w13 ⟨rfl, hb13⟩
  have q13_base := bseq q12_base hb13
  have q13_r_ps := bseq q12_r_ps hb13
  have q13_r_ds := bseq q12_r_ds hb13
  have q13_r_gs := bseq q12_r_gs hb13
  have q13_W0 := bseq q12_W0 hb13
  have q13_x0 := bseq q12_x0 hb13
  have q13_x1 := bseq q12_x1 hb13
  have q13_x2 := bseq q12_x2 hb13
  have q13_G0 := bseq q12_G0 hb13
  rw [decide_eq_true rfl]
  go_wp2_with fail
  refine (toInt64S_any G k e gs _ hn_gs (by omega) (hr_gs.below q13_r_gs)).mono ?_
  rintro en w14 ⟨rfl, hz14, hc14, hb14⟩
  have q14_base := bseq q13_base hb14
  have q14_r_ps := bseq q13_r_ps hb14
  have q14_r_ds := bseq q13_r_ds hb14
  have q14_r_gs := bseq q13_r_gs hb14
  have q14_W0 := bseq q13_W0 hb14
  have q14_x0 := bseq q13_x0 hb14
  have q14_x1 := bseq q13_x1 hb14
  have q14_x2 := bseq q13_x2 hb14
  have q14_G0 := bseq q13_G0 hb14
  have ho14 := OwnR.of_cells hn_gs (Nat.lt_of_succ_le hz14) hc14
  go_wp2_with fail
  refine (eqInt64S_any _ _ k k k k gs gs _ hn_gs hn_gs (by omega) (by omega) (ho7.below q14_x2).rd ho14.rd).mono ?_
  rintro en w15 ⟨rfl, hb15⟩
  have q15_base := bseq q14_base hb15
  have q15_r_ps := bseq q14_r_ps hb15
  have q15_r_ds := bseq q14_r_ds hb15
  have q15_r_gs := bseq q14_r_gs hb15
  have q15_W0 := bseq q14_W0 hb15
  have q15_x0 := bseq q14_x0 hb15
  have q15_x1 := bseq q14_x1 hb15
  have q15_x2 := bseq q14_x2 hb15
  have q15_G0 := bseq q14_G0 hb15
  rw [decide_eq_true rfl]
  go_wp2_with fail
  refine (mark_any (some ⟨w4.heap.size, 0, none⟩) n n w4.heap.size ps 1 _ (ho5.below q15_x0) (by omega) (by omega) (by omega)).mono ?_
  rintro en w16 ⟨rfl, hm16, hg16⟩
  have q16_base := Below.grown q15_base hg16 q15_base.size (fun k hk => Nat.le_trans q4_base.size (OwnR.ge (ho5.below q15_x0) k hk))
  have q16_r_ps := Below.grown q15_r_ps hg16 q15_r_ps.size (fun k hk => Nat.le_trans q4_r_ps.size (OwnR.ge (ho5.below q15_x0) k hk))
  have q16_r_ds := Below.grown q15_r_ds hg16 q15_r_ds.size (fun k hk => Nat.le_trans q4_r_ds.size (OwnR.ge (ho5.below q15_x0) k hk))
  have q16_r_gs := Below.grown q15_r_gs hg16 q15_r_gs.size (fun k hk => Nat.le_trans q4_r_gs.size (OwnR.ge (ho5.below q15_x0) k hk))
  have q16_W0 := Below.grown q15_W0 hg16 q15_W0.size (fun k hk => Nat.le_trans (Nat.le_refl _) (OwnR.ge (ho5.below q15_x0) k hk))
  have f16_x1 := OwnR.far (ho6.below q15_x1) (g2 := w4.heap.size) hg16 (Nat.lt_of_lt_of_le (Nat.lt_of_succ_le hz5) (Nat.le_refl _))
  have f16_x2 := OwnR.far (ho7.below q15_x2) (g2 := w4.heap.size) hg16 (Nat.lt_of_lt_of_le (Nat.lt_of_succ_le hz5) hb6.size)
  have f16_G0 := OwnR.far (ho0_8.below q15_G0) (g2 := w4.heap.size) hg16 (Nat.lt_of_lt_of_le (Nat.lt_of_succ_le hz5) q7_x0.size)
  go_wp2_with fail
  refine (mark_any (some ⟨w5.heap.size, 0, none⟩) m m w5.heap.size ds (1 + (n : Int)) _ f16_x1 (by omega) (by omega) (by omega)).mono ?_
  rintro en w17 ⟨rfl, hm17, hg17⟩
  have q17_base := Below.grown q16_base hg17 q16_base.size (fun k hk => Nat.le_trans q5_base.size (OwnR.ge f16_x1 k hk))
  have q17_r_ps := Below.grown q16_r_ps hg17 q16_r_ps.size (fun k hk => Nat.le_trans q5_r_ps.size (OwnR.ge f16_x1 k hk))
  have q17_r_ds := Below.grown q16_r_ds hg17 q16_r_ds.size (fun k hk => Nat.le_trans q5_r_ds.size (OwnR.ge f16_x1 k hk))
  have q17_r_gs := Below.grown q16_r_gs hg17 q16_r_gs.size (fun k hk => Nat.le_trans q5_r_gs.size (OwnR.ge f16_x1 k hk))
  have q17_W0 := Below.grown q16_W0 hg17 q16_W0.size (fun k hk => Nat.le_trans hb5.size (OwnR.ge f16_x1 k hk))
  have f17_x2 := OwnR.far f16_x2 (g2 := w5.heap.size) hg17 (Nat.lt_of_lt_of_le (Nat.lt_of_succ_le hz6) (Nat.le_refl _))
  have f17_G0 := OwnR.far f16_G0 (g2 := w5.heap.size) hg17 (Nat.lt_of_lt_of_le (Nat.lt_of_succ_le hz6) hb7.size)
  go_wp2_with fail
  refine (mark_any (some ⟨w6.heap.size, 0, none⟩) k k w6.heap.size gs ((1 + (n : Int)) + (m : Int)) _ f17_x2 (by omega) (by omega) (by omega)).mono ?_
  rintro en w18 ⟨rfl, hm18, hg18⟩
  have q18_base := Below.grown q17_base hg18 q17_base.size (fun k hk => Nat.le_trans q6_base.size (OwnR.ge f17_x2 k hk))
  have q18_r_ps := Below.grown q17_r_ps hg18 q17_r_ps.size (fun k hk => Nat.le_trans q6_r_ps.size (OwnR.ge f17_x2 k hk))
  have q18_r_ds := Below.grown q17_r_ds hg18 q17_r_ds.size (fun k hk => Nat.le_trans q6_r_ds.size (OwnR.ge f17_x2 k hk))
  have q18_r_gs := Below.grown q17_r_gs hg18 q17_r_gs.size (fun k hk => Nat.le_trans q6_r_gs.size (OwnR.ge f17_x2 k hk))
  have q18_W0 := Below.grown q17_W0 hg18 q17_W0.size (fun k hk => Nat.le_trans q6_W0.size (OwnR.ge f17_x2 k hk))
  have f18_G0 := OwnR.far f17_G0 (g2 := w6.heap.size) hg18 (Nat.lt_of_lt_of_le (Nat.lt_of_succ_le hz7) (Nat.le_refl _))
  go_wp2_with fail
  refine (eqInt64S_any _ _ (ecVal ps ds gs L).length (ecVal ps ds gs L).length c0_8 c0_4 (ecVal ps ds gs L) (ecVal ps ds gs L) _ rfl rfl (by omega) (by omega) f18_G0.rd (ho0_4.below q18_W0).rd).mono ?_
  rintro en w19 ⟨rfl, hb19⟩
  have q19_base := bseq q18_base hb19
  have q19_r_ps := bseq q18_r_ps hb19
  have q19_r_ds := bseq q18_r_ds hb19
  have q19_r_gs := bseq q18_r_gs hb19
  have q19_W0 := bseq q18_W0 hb19
  rw [decide_eq_true rfl]
  go_wp2_with fail
  refine (mark_any A0_8 (ecVal ps ds gs L).length c0_8 w7.heap.size (ecVal ps ds gs L) 1 _ (f18_G0.below hb19) (by omega) (by omega) (by omega)).mono ?_
  rintro en w20 ⟨rfl, hm20, hg20⟩
  have q20_base := Below.grown q19_base hg20 q19_base.size (fun k hk => Nat.le_trans q7_base.size (OwnR.ge (f18_G0.below hb19) k hk))
  have q20_r_ps := Below.grown q19_r_ps hg20 q19_r_ps.size (fun k hk => Nat.le_trans q7_r_ps.size (OwnR.ge (f18_G0.below hb19) k hk))
  have q20_r_ds := Below.grown q19_r_ds hg20 q19_r_ds.size (fun k hk => Nat.le_trans q7_r_ds.size (OwnR.ge (f18_G0.below hb19) k hk))
  have q20_r_gs := Below.grown q19_r_gs hg20 q19_r_gs.size (fun k hk => Nat.le_trans q7_r_gs.size (OwnR.ge (f18_G0.below hb19) k hk))
  have q20_W0 := Below.grown q19_W0 hg20 q19_W0.size (fun k hk => Nat.le_trans q7_W0.size (OwnR.ge (f18_G0.below hb19) k hk))
  go_wp2_with fail
  refine (held_any A0_8 (ecVal ps ds gs L).length c0_8 w7.heap.size 1 _ hm20 (by omega) (by omega) (by omega)).mono ?_
  rintro en wh1 ⟨rfl, rfl⟩
  go_wp2_with fail
  refine (toInt64S_any A n c ps _ hn_ps (by omega) (hr_ps.below q20_r_ps)).mono ?_
  rintro en w21 ⟨rfl, hz21, hc21, hb21⟩
  have q21_base := bseq q20_base hb21
  have q21_r_ps := bseq q20_r_ps hb21
  have q21_r_ds := bseq q20_r_ds hb21
  have q21_r_gs := bseq q20_r_gs hb21
  have q21_W0 := bseq q20_W0 hb21
  have ho21 := OwnR.of_cells hn_ps (Nat.lt_of_succ_le hz21) hc21
  go_wp2_with fail
  refine (toInt64S_any B m d ds _ hn_ds (by omega) (hr_ds.below q21_r_ds)).mono ?_
  rintro en w22 ⟨rfl, hz22, hc22, hb22⟩
  have q22_base := bseq q21_base hb22
  have q22_r_ps := bseq q21_r_ps hb22
  have q22_r_ds := bseq q21_r_ds hb22
  have q22_r_gs := bseq q21_r_gs hb22
  have q22_W0 := bseq q21_W0 hb22
  have q22_G0 := bseq hb21 hb22
  have ho22 := OwnR.of_cells hn_ds (Nat.lt_of_succ_le hz22) hc22
  go_wp2_with fail
  refine (toInt64S_any G k e gs _ hn_gs (by omega) (hr_gs.below q22_r_gs)).mono ?_
  rintro en w23 ⟨rfl, hz23, hc23, hb23⟩
  have q23_base := bseq q22_base hb23
  have q23_r_ps := bseq q22_r_ps hb23
  have q23_r_ds := bseq q22_r_ds hb23
  have q23_r_gs := bseq q22_r_gs hb23
  have q23_W0 := bseq q22_W0 hb23
  have q23_G0 := bseq q22_G0 hb23
  have q23_h0 := bseq hb22 hb23
  have ho23 := OwnR.of_cells hn_gs (Nat.lt_of_succ_le hz23) hc23
  go_wp2_with fail
  refine (iEch_any _ n n ps _ m m ds _ k k gs L _ hn_ps (Nat.le_refl _) (by omega) (ho21.below q23_h0).rd hn_ds (Nat.le_refl _) (by omega) (ho22.below hb23).rd hn_gs (Nat.le_refl _) (by omega) ho23.rd).mono ?_
  rintro en w24 ⟨A0_24, c0_24, rfl, ho0_24, hb24⟩
  have q24_base := bseq q23_base hb24
  have q24_r_ps := bseq q23_r_ps hb24
  have q24_r_ds := bseq q23_r_ds hb24
  have q24_r_gs := bseq q23_r_gs hb24
  have q24_W0 := bseq q23_W0 hb24
  have q24_G0 := bseq q23_G0 hb24
  have q24_h0 := bseq q23_h0 hb24
  have q24_h1 := bseq hb23 hb24
  go_wp2_with fail
  refine (eqInt64S_any _ _ (ecVal ps ds gs L).length (ecVal ps ds gs L).length c0_24 c0_4 (ecVal ps ds gs L) (ecVal ps ds gs L) _ rfl rfl (by omega) (by omega) ho0_24.rd (ho0_4.below q24_W0).rd).mono ?_
  rintro en w25 ⟨rfl, hb25⟩
  have q25_base := bseq q24_base hb25
  have q25_r_ps := bseq q24_r_ps hb25
  have q25_r_ds := bseq q24_r_ds hb25
  have q25_r_gs := bseq q24_r_gs hb25
  have q25_W0 := bseq q24_W0 hb25
  have q25_G0 := bseq q24_G0 hb25
  rw [decide_eq_true rfl]
  go_wp2_with fail
  refine (held_any A0_8 (ecVal ps ds gs L).length c0_8 w7.heap.size 1 _ (hm20.below q25_G0) (by omega) (by omega) (by omega)).mono ?_
  rintro en wh2 ⟨rfl, rfl⟩
  go_wp2
  go_ret
  exact ⟨rfl, q25_base⟩
end Go.Proofs.Ytgfhmihnnjcagaa
