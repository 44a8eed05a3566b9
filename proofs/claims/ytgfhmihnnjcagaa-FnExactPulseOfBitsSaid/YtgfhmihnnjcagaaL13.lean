/- the law, walked: PulseOfBits -/
import Derived.Test.YtgfhmihnnjcagaaW14
import Derived.Test.YtgfhmihnnjcagaaMark
set_option linter.unusedVariables false
set_option linter.unusedSimpArgs false
namespace Go.Proofs.Ytgfhmihnnjcagaa
open Go.RowKit
set_option maxHeartbeats 4000000 in
theorem lawPob_any (A : Option Addr) (n c : Nat) (bs : List Int) (wd : Int) (am : Int) (w : World) (hn_bs : bs.length = n) (hc_bs : n ≤ c) (hr_bs : Rd w A bs) :
    Calls Try.prog 13 #[.slice A n c, .int .i64 wd, .int .i64 am] w fun en w9 => en = .returned (.bool true) ∧ Below w.heap.size w w9 := by
  by_cases hbig_bs : 1048576 < n
  · go_enter Try.func13, Try.ntmps13
    go_wp2
    go_ret
    exact ⟨rfl, Below.refl _ _⟩
  go_enter Try.func13, Try.ntmps13
  have hL0 : (plVal bs wd am).length ≤ 1048576 := plVal_len
  go_wp2_with fail
  refine (toInt64S_any A n c bs _ hn_bs (by omega) hr_bs).mono ?_
  rintro en w1 ⟨rfl, hz1, hc1, hb1⟩
  have ho1 := OwnR.of_cells hn_bs (Nat.lt_of_succ_le hz1) hc1
  go_wp2_with fail
  refine (sPob_any _ n n bs wd am _ hn_bs (Nat.le_refl _) (by omega) ho1.rd).mono ?_
  rintro en w2 ⟨A0_2, c0_2, rfl, ho0_2, hb2⟩
  have q2_base := bseq hb1 hb2
  have q2_r_bs := bseq hb1 hb2
  go_wp2_with fail
  refine (toInt64S_any A n c bs _ hn_bs (by omega) (hr_bs.below q2_r_bs)).mono ?_
  rintro en w3 ⟨rfl, hz3, hc3, hb3⟩
  have q3_base := bseq q2_base hb3
  have q3_r_bs := bseq q2_r_bs hb3
  have ho3 := OwnR.of_cells hn_bs (Nat.lt_of_succ_le hz3) hc3
  go_wp2_with fail
  refine (iPob_any _ n n bs wd am _ hn_bs (Nat.le_refl _) (by omega) ho3.rd).mono ?_
  rintro en w4 ⟨A0_4, c0_4, rfl, ho0_4, hb4⟩
  have q4_base := bseq q3_base hb4
  have q4_r_bs := bseq q3_r_bs hb4
  have q4_W0 := bseq hb3 hb4
  go_wp2_with fail
  refine (eqInt64S_any _ _ (plVal bs wd am).length (plVal bs wd am).length c0_4 c0_2 (plVal bs wd am) (plVal bs wd am) _ rfl rfl (by omega) (by omega) ho0_4.rd (ho0_2.below q4_W0).rd).mono ?_
  rintro en w5 ⟨rfl, hb5⟩
  have q5_base := bseq q4_base hb5
  have q5_r_bs := bseq q4_r_bs hb5
  have q5_W0 := bseq q4_W0 hb5
  have q5_x0 := bseq hb4 hb5
  rw [decide_eq_true rfl]
  go_wp2_with fail
  refine (toInt64S_any A n c bs _ hn_bs (by omega) (hr_bs.below q5_r_bs)).mono ?_
  rintro en w6 ⟨rfl, hz6, hc6, hb6⟩
  have q6_base := bseq q5_base hb6
  have q6_r_bs := bseq q5_r_bs hb6
  have q6_W0 := bseq q5_W0 hb6
  have q6_x0 := bseq q5_x0 hb6
  have q6_G0 := bseq hb5 hb6
  have ho6 := OwnR.of_cells hn_bs (Nat.lt_of_succ_le hz6) hc6
  go_wp2_with fail
  refine (eqInt64S_any _ _ n n n n bs bs _ hn_bs hn_bs (by omega) (by omega) (ho3.below q6_x0).rd ho6.rd).mono ?_
  rintro en w7 ⟨rfl, hb7⟩
  have q7_base := bseq q6_base hb7
  have q7_r_bs := bseq q6_r_bs hb7
  have q7_W0 := bseq q6_W0 hb7
  have q7_x0 := bseq q6_x0 hb7
  have q7_G0 := bseq q6_G0 hb7
  rw [decide_eq_true rfl]
  go_wp2_with fail
  refine (mark_any (some ⟨w2.heap.size, 0, none⟩) n n w2.heap.size bs 1 _ (ho3.below q7_x0) (by omega) (by omega) (by omega)).mono ?_
  rintro en w8 ⟨rfl, hm8, hg8⟩
  have q8_base := Below.grown q7_base hg8 q7_base.size (fun k hk => Nat.le_trans q2_base.size (OwnR.ge (ho3.below q7_x0) k hk))
  have q8_r_bs := Below.grown q7_r_bs hg8 q7_r_bs.size (fun k hk => Nat.le_trans q2_r_bs.size (OwnR.ge (ho3.below q7_x0) k hk))
  have q8_W0 := Below.grown q7_W0 hg8 q7_W0.size (fun k hk => Nat.le_trans (Nat.le_refl _) (OwnR.ge (ho3.below q7_x0) k hk))
  have f8_G0 := OwnR.far (ho0_4.below q7_G0) (g2 := w2.heap.size) hg8 (Nat.lt_of_lt_of_le (Nat.lt_of_succ_le hz3) (Nat.le_refl _))
  go_wp2_with fail
  refine (eqInt64S_any _ _ (plVal bs wd am).length (plVal bs wd am).length c0_4 c0_2 (plVal bs wd am) (plVal bs wd am) _ rfl rfl (by omega) (by omega) f8_G0.rd (ho0_2.below q8_W0).rd).mono ?_
  rintro en w9 ⟨rfl, hb9⟩
  have q9_base := bseq q8_base hb9
  have q9_r_bs := bseq q8_r_bs hb9
  have q9_W0 := bseq q8_W0 hb9
  rw [decide_eq_true rfl]
  go_wp2_with fail
  refine (mark_any A0_4 (plVal bs wd am).length c0_4 w3.heap.size (plVal bs wd am) 1 _ (f8_G0.below hb9) (by omega) (by omega) (by omega)).mono ?_
  rintro en w10 ⟨rfl, hm10, hg10⟩
  have q10_base := Below.grown q9_base hg10 q9_base.size (fun k hk => Nat.le_trans q3_base.size (OwnR.ge (f8_G0.below hb9) k hk))
  have q10_r_bs := Below.grown q9_r_bs hg10 q9_r_bs.size (fun k hk => Nat.le_trans q3_r_bs.size (OwnR.ge (f8_G0.below hb9) k hk))
  have q10_W0 := Below.grown q9_W0 hg10 q9_W0.size (fun k hk => Nat.le_trans hb3.size (OwnR.ge (f8_G0.below hb9) k hk))
  go_wp2_with fail
  refine (held_any A0_4 (plVal bs wd am).length c0_4 w3.heap.size 1 _ hm10 (by omega) (by omega) (by omega)).mono ?_
  rintro en wh1 ⟨rfl, rfl⟩
  go_wp2_with fail
  refine (toInt64S_any A n c bs _ hn_bs (by omega) (hr_bs.below q10_r_bs)).mono ?_
  rintro en w11 ⟨rfl, hz11, hc11, hb11⟩
  have q11_base := bseq q10_base hb11
  have q11_r_bs := bseq q10_r_bs hb11
  have q11_W0 := bseq q10_W0 hb11
  have ho11 := OwnR.of_cells hn_bs (Nat.lt_of_succ_le hz11) hc11
  go_wp2_with fail
  refine (iPob_any _ n n bs wd am _ hn_bs (Nat.le_refl _) (by omega) ho11.rd).mono ?_
  rintro en w12 ⟨A0_12, c0_12, rfl, ho0_12, hb12⟩
  have q12_base := bseq q11_base hb12
  have q12_r_bs := bseq q11_r_bs hb12
  have q12_W0 := bseq q11_W0 hb12
  have q12_G0 := bseq hb11 hb12
  go_wp2_with fail
  refine (eqInt64S_any _ _ (plVal bs wd am).length (plVal bs wd am).length c0_12 c0_2 (plVal bs wd am) (plVal bs wd am) _ rfl rfl (by omega) (by omega) ho0_12.rd (ho0_2.below q12_W0).rd).mono ?_
  rintro en w13 ⟨rfl, hb13⟩
  have q13_base := bseq q12_base hb13
  have q13_r_bs := bseq q12_r_bs hb13
  have q13_W0 := bseq q12_W0 hb13
  have q13_G0 := bseq q12_G0 hb13
  rw [decide_eq_true rfl]
  go_wp2_with fail
  refine (held_any A0_4 (plVal bs wd am).length c0_4 w3.heap.size 1 _ (hm10.below q13_G0) (by omega) (by omega) (by omega)).mono ?_
  rintro en wh2 ⟨rfl, rfl⟩
  go_wp2
  go_ret
  exact ⟨rfl, q13_base⟩
end Go.Proofs.Ytgfhmihnnjcagaa
