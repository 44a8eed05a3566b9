/- the law, walked: MatchSignal -/
import Derived.Test.YtgfhmihnnjcagaaW10
import Derived.Test.YtgfhmihnnjcagaaMark
set_option linter.unusedVariables false
set_option linter.unusedSimpArgs false
namespace Go.Proofs.Ytgfhmihnnjcagaa
open Go.RowKit
set_option maxHeartbeats 4000000 in
theorem lawMs_any (A : Option Addr) (n c : Nat) (xs : List Int) (B : Option Addr) (p d : Nat) (ps : List Int) (w : World) (hn_xs : xs.length = n) (hc_xs : n ≤ c) (hr_xs : Rd w A xs) (hn_ps : ps.length = p) (hc_ps : p ≤ d) (hr_ps : Rd w B ps) :
    Calls Try.prog 10 #[.slice A n c, .slice B p d] w fun en w9 => en = .returned (.bool true) ∧ Below w.heap.size w w9 := by
  by_cases hbig_xs : 1048576 < n
  · go_enter Try.func10, Try.ntmps10
    go_wp2
    go_ret
    exact ⟨rfl, Below.refl _ _⟩
  by_cases hbig_ps : 1048576 < p
  · go_enter Try.func10, Try.ntmps10
    go_wp2
    go_ret
    exact ⟨rfl, Below.refl _ _⟩
  go_enter Try.func10, Try.ntmps10
  have hL0 : (msVal xs ps).length ≤ 1048576 := msVal_len hn_xs (by omega)
  go_wp2_with fail
  refine (toInt64S_any A n c xs _ hn_xs (by omega) hr_xs).mono ?_
  rintro en w1 ⟨rfl, hz1, hc1, hb1⟩
  have ho1 := OwnR.of_cells hn_xs (Nat.lt_of_succ_le hz1) hc1
  go_wp2_with fail
  refine (toInt64S_any B p d ps _ hn_ps (by omega) (hr_ps.below hb1)).mono ?_
  rintro en w2 ⟨rfl, hz2, hc2, hb2⟩
  have q2_base := bseq hb1 hb2
  have q2_r_xs := bseq hb1 hb2
  have q2_r_ps := bseq hb1 hb2
  have ho2 := OwnR.of_cells hn_ps (Nat.lt_of_succ_le hz2) hc2
  go_wp2_with fail
  refine (sMs_any _ n n xs _ p p ps _ hn_xs (Nat.le_refl _) (by omega) (ho1.below hb2).rd hn_ps (Nat.le_refl _) (by omega) ho2.rd).mono ?_
  rintro en w3 ⟨A0_3, c0_3, rfl, ho0_3, hb3⟩
  have q3_base := bseq q2_base hb3
  have q3_r_xs := bseq q2_r_xs hb3
  have q3_r_ps := bseq q2_r_ps hb3
  have q3_s0 := bseq hb2 hb3
  go_wp2_with fail
  refine (toInt64S_any A n c xs _ hn_xs (by omega) (hr_xs.below q3_r_xs)).mono ?_
  rintro en w4 ⟨rfl, hz4, hc4, hb4⟩
  have q4_base := bseq q3_base hb4
  have q4_r_xs := bseq q3_r_xs hb4
  have q4_r_ps := bseq q3_r_ps hb4
  have ho4 := OwnR.of_cells hn_xs (Nat.lt_of_succ_le hz4) hc4
  go_wp2_with fail
  refine (toInt64S_any B p d ps _ hn_ps (by omega) (hr_ps.below q4_r_ps)).mono ?_
  rintro en w5 ⟨rfl, hz5, hc5, hb5⟩
  have q5_base := bseq q4_base hb5
  have q5_r_xs := bseq q4_r_xs hb5
  have q5_r_ps := bseq q4_r_ps hb5
  have q5_W0 := bseq hb4 hb5
  have ho5 := OwnR.of_cells hn_ps (Nat.lt_of_succ_le hz5) hc5
  go_wp2_with fail
  refine (iMs_any _ n n xs _ p p ps _ hn_xs (Nat.le_refl _) (by omega) (ho4.below hb5).rd hn_ps (Nat.le_refl _) (by omega) ho5.rd).mono ?_
  rintro en w6 ⟨A0_6, c0_6, rfl, ho0_6, hb6⟩
  have q6_base := bseq q5_base hb6
  have q6_r_xs := bseq q5_r_xs hb6
  have q6_r_ps := bseq q5_r_ps hb6
  have q6_W0 := bseq q5_W0 hb6
  have q6_x0 := bseq hb5 hb6
  go_wp2_with fail
  refine (eqInt64S_any _ _ (msVal xs ps).length (msVal xs ps).length c0_6 c0_3 (msVal xs ps) (msVal xs ps) _ rfl rfl (by omega) (by omega) ho0_6.rd (ho0_3.below q6_W0).rd).mono ?_
  rintro en w7 ⟨rfl, hb7⟩
  have q7_base := bseq q6_base hb7
  have q7_r_xs := bseq q6_r_xs hb7
  have q7_r_ps := bseq q6_r_ps hb7
  have q7_W0 := bseq q6_W0 hb7
  have q7_x0 := bseq q6_x0 hb7
  have q7_x1 := bseq hb6 hb7
  rw [decide_eq_true rfl]
  go_wp2_with fail
  refine (toInt64S_any A n c xs _ hn_xs (by omega) (hr_xs.below q7_r_xs)).mono ?_
  rintro en w8 ⟨rfl, hz8, hc8, hb8⟩
  have q8_base := bseq q7_base hb8
  have q8_r_xs := bseq q7_r_xs hb8
  have q8_r_ps := bseq q7_r_ps hb8
  have q8_W0 := bseq q7_W0 hb8
  have q8_x0 := bseq q7_x0 hb8
  have q8_x1 := bseq q7_x1 hb8
  have q8_G0 := bseq hb7 hb8
  have ho8 := OwnR.of_cells hn_xs (Nat.lt_of_succ_le hz8) hc8
  go_wp2_with fail
  refine (eqInt64S_any _ _ n n n n xs xs _ hn_xs hn_xs (by omega) (by omega) (ho4.below q8_x0).rd ho8.rd).mono ?_
  rintro en w9 ⟨rfl, hb9⟩
  have q9_base := bseq q8_base hb9
  have q9_r_xs := bseq q8_r_xs hb9
  have q9_r_ps := bseq q8_r_ps hb9
  have q9_W0 := bseq q8_W0 hb9
  have q9_x0 := bseq q8_x0 hb9
  have q9_x1 := bseq q8_x1 hb9
  have q9_G0 := bseq q8_G0 hb9
  rw [decide_eq_true rfl]
  go_wp2_with fail
  refine (toInt64S_any B p d ps _ hn_ps (by omega) (hr_ps.below q9_r_ps)).mono ?_
  rintro en w10 ⟨rfl, hz10, hc10, hb10⟩
  have q10_base := bseq q9_base hb10
  have q10_r_xs := bseq q9_r_xs hb10
  have q10_r_ps := bseq q9_r_ps hb10
  have q10_W0 := bseq q9_W0 hb10
  have q10_x0 := bseq q9_x0 hb10
  have q10_x1 := bseq q9_x1 hb10
  have q10_G0 := bseq q9_G0 hb10
  have ho10 := OwnR.of_cells hn_ps (Nat.lt_of_succ_le hz10) hc10
  go_wp2_with fail
  refine (eqInt64S_any _ _ p p p p ps ps _ hn_ps hn_ps (by omega) (by omega) (ho5.below q10_x1).rd ho10.rd).mono ?_
  rintro en w11 ⟨rfl, hb11⟩
  have q11_base := bseq q10_base hb11
  have q11_r_xs := bseq q10_r_xs hb11
  have q11_r_ps := bseq q10_r_ps hb11
  have q11_W0 := bseq q10_W0 hb11
  have q11_x0 := bseq q10_x0 hb11
  have q11_x1 := bseq q10_x1 hb11
  have q11_G0 := bseq q10_G0 hb11
  rw [decide_eq_true rfl]
  go_wp2_with fail
  refine (mark_any (some ⟨w3.heap.size, 0, none⟩) n n w3.heap.size xs 1 _ (ho4.below q11_x0) (by omega) (by omega) (by omega)).mono ?_
  rintro en w12 ⟨rfl, hm12, hg12⟩
  have q12_base := Below.grown q11_base hg12 q11_base.size (fun k hk => Nat.le_trans q3_base.size (OwnR.ge (ho4.below q11_x0) k hk))
  have q12_r_xs := Below.grown q11_r_xs hg12 q11_r_xs.size (fun k hk => Nat.le_trans q3_r_xs.size (OwnR.ge (ho4.below q11_x0) k hk))
  have q12_r_ps := Below.grown q11_r_ps hg12 q11_r_ps.size (fun k hk => Nat.le_trans q3_r_ps.size (OwnR.ge (ho4.below q11_x0) k hk))
  have q12_W0 := Below.grown q11_W0 hg12 q11_W0.size (fun k hk => Nat.le_trans (Nat.le_refl _) (OwnR.ge (ho4.below q11_x0) k hk))
  have f12_x1 := OwnR.far (ho5.below q11_x1) (g2 := w3.heap.size) hg12 (Nat.lt_of_lt_of_le (Nat.lt_of_succ_le hz4) (Nat.le_refl _))
  have f12_G0 := OwnR.far (ho0_6.below q11_G0) (g2 := w3.heap.size) hg12 (Nat.lt_of_lt_of_le (Nat.lt_of_succ_le hz4) hb5.size)
  go_wp2_with fail
  refine (mark_any (some ⟨w4.heap.size, 0, none⟩) p p w4.heap.size ps (1 + (n : Int)) _ f12_x1 (by omega) (by omega) (by omega)).mono ?_
  rintro en w13 ⟨rfl, hm13, hg13⟩
  have q13_base := Below.grown q12_base hg13 q12_base.size (fun k hk => Nat.le_trans q4_base.size (OwnR.ge f12_x1 k hk))
  have q13_r_xs := Below.grown q12_r_xs hg13 q12_r_xs.size (fun k hk => Nat.le_trans q4_r_xs.size (OwnR.ge f12_x1 k hk))
  have q13_r_ps := Below.grown q12_r_ps hg13 q12_r_ps.size (fun k hk => Nat.le_trans q4_r_ps.size (OwnR.ge f12_x1 k hk))
  have q13_W0 := Below.grown q12_W0 hg13 q12_W0.size (fun k hk => Nat.le_trans hb4.size (OwnR.ge f12_x1 k hk))
  have f13_G0 := OwnR.far f12_G0 (g2 := w4.heap.size) hg13 (Nat.lt_of_lt_of_le (Nat.lt_of_succ_le hz5) (Nat.le_refl _))
  go_wp2_with fail
  refine (eqInt64S_any _ _ (msVal xs ps).length (msVal xs ps).length c0_6 c0_3 (msVal xs ps) (msVal xs ps) _ rfl rfl (by omega) (by omega) f13_G0.rd (ho0_3.below q13_W0).rd).mono ?_
  rintro en w14 ⟨rfl, hb14⟩
  have q14_base := bseq q13_base hb14
  have q14_r_xs := bseq q13_r_xs hb14
  have q14_r_ps := bseq q13_r_ps hb14
  have q14_W0 := bseq q13_W0 hb14
  rw [decide_eq_true rfl]
  go_wp2_with fail
  refine (mark_any A0_6 (msVal xs ps).length c0_6 w5.heap.size (msVal xs ps) 1 _ (f13_G0.below hb14) (by omega) (by omega) (by omega)).mono ?_
  rintro en w15 ⟨rfl, hm15, hg15⟩
  have q15_base := Below.grown q14_base hg15 q14_base.size (fun k hk => Nat.le_trans q5_base.size (OwnR.ge (f13_G0.below hb14) k hk))
  have q15_r_xs := Below.grown q14_r_xs hg15 q14_r_xs.size (fun k hk => Nat.le_trans q5_r_xs.size (OwnR.ge (f13_G0.below hb14) k hk))
  have q15_r_ps := Below.grown q14_r_ps hg15 q14_r_ps.size (fun k hk => Nat.le_trans q5_r_ps.size (OwnR.ge (f13_G0.below hb14) k hk))
  have q15_W0 := Below.grown q14_W0 hg15 q14_W0.size (fun k hk => Nat.le_trans q5_W0.size (OwnR.ge (f13_G0.below hb14) k hk))
  go_wp2_with fail
  refine (held_any A0_6 (msVal xs ps).length c0_6 w5.heap.size 1 _ hm15 (by omega) (by omega) (by omega)).mono ?_
  rintro en wh1 ⟨rfl, rfl⟩
  go_wp2_with fail
  refine (toInt64S_any A n c xs _ hn_xs (by omega) (hr_xs.below q15_r_xs)).mono ?_
  rintro en w16 ⟨rfl, hz16, hc16, hb16⟩
  have q16_base := bseq q15_base hb16
  have q16_r_xs := bseq q15_r_xs hb16
  have q16_r_ps := bseq q15_r_ps hb16
  have q16_W0 := bseq q15_W0 hb16
  have ho16 := OwnR.of_cells hn_xs (Nat.lt_of_succ_le hz16) hc16
  go_wp2_with fail
  refine (toInt64S_any B p d ps _ hn_ps (by omega) (hr_ps.below q16_r_ps)).mono ?_
  rintro en w17 ⟨rfl, hz17, hc17, hb17⟩
  have q17_base := bseq q16_base hb17
  have q17_r_xs := bseq q16_r_xs hb17
  have q17_r_ps := bseq q16_r_ps hb17
  have q17_W0 := bseq q16_W0 hb17
  have q17_G0 := bseq hb16 hb17
  have ho17 := OwnR.of_cells hn_ps (Nat.lt_of_succ_le hz17) hc17
  go_wp2_with fail
  refine (iMs_any _ n n xs _ p p ps _ hn_xs (Nat.le_refl _) (by omega) (ho16.below hb17).rd hn_ps (Nat.le_refl _) (by omega) ho17.rd).mono ?_
  rintro en w18 ⟨A0_18, c0_18, rfl, ho0_18, hb18⟩
  have q18_base := bseq q17_base hb18
  have q18_r_xs := bseq q17_r_xs hb18
  have q18_r_ps := bseq q17_r_ps hb18
  have q18_W0 := bseq q17_W0 hb18
  have q18_G0 := bseq q17_G0 hb18
  have q18_h0 := bseq hb17 hb18
  go_wp2_with fail
  refine (eqInt64S_any _ _ (msVal xs ps).length (msVal xs ps).length c0_18 c0_3 (msVal xs ps) (msVal xs ps) _ rfl rfl (by omega) (by omega) ho0_18.rd (ho0_3.below q18_W0).rd).mono ?_
  rintro en w19 ⟨rfl, hb19⟩
  have q19_base := bseq q18_base hb19
  have q19_r_xs := bseq q18_r_xs hb19
  have q19_r_ps := bseq q18_r_ps hb19
  have q19_W0 := bseq q18_W0 hb19
  have q19_G0 := bseq q18_G0 hb19
  rw [decide_eq_true rfl]
  go_wp2_with fail
  refine (held_any A0_6 (msVal xs ps).length c0_6 w5.heap.size 1 _ (hm15.below q19_G0) (by omega) (by omega) (by omega)).mono ?_
  rintro en wh2 ⟨rfl, rfl⟩
  go_wp2
  go_ret
  exact ⟨rfl, q19_base⟩
end Go.Proofs.Ytgfhmihnnjcagaa
