/- the law, walked: PeaksOver -/
import Derived.Test.YtgfhmihnnjcagaaW21
import Derived.Test.YtgfhmihnnjcagaaMark
set_option linter.unusedVariables false
set_option linter.unusedSimpArgs false
namespace Go.Proofs.Ytgfhmihnnjcagaa
open Go.RowKit

theorem sPox_any (A : Option Addr) (n c : Nat) (xs : List Int) (t g : Int) (w : World) (hn : xs.length = n) (hnc : n ≤ c) (hm : n ≤ 1048576) (hr : Rd w A xs) (hA : ∃ a, A = some a) :
    Calls Try.prog 22 #[.slice A n c, .int .i64 t, .int .i64 g] w fun en w9 => ∃ A9 c9, en = .returned (.tuple #[.slice A9 (poVal xs t g).length c9, .int .i64 (poCode xs t g)]) ∧ OwnR w9 w.heap.size A9 (poVal xs t g).length c9 (poVal xs t g) ∧ Below w.heap.size w w9 :=
  sPo_any A n c xs t g w hn hnc hm hr (fun e => by obtain ⟨a, h⟩ := hA; rw [h] at e; cases e)

theorem iPo2x_any (A : Option Addr) (n c : Nat) (xs : List Int) (t g : Int) (w : World) (hn : xs.length = n) (hnc : n ≤ c) (hm : n ≤ 1048576) (hr : Rd w A xs) (hA : ∃ a, A = some a) :
    Calls Try.prog 24 #[.slice A n c, .int .i64 t, .int .i64 g] w fun en w9 => ∃ A9 c9, en = .returned (.tuple #[.slice A9 (poVal xs t g).length c9, .int .i64 (poCode xs t g)]) ∧ OwnR w9 w.heap.size A9 (poVal xs t g).length c9 (poVal xs t g) ∧ Below w.heap.size w w9 :=
  iPo2_any A n c xs t g w hn hnc hm hr (fun e => by obtain ⟨a, h⟩ := hA; rw [h] at e; cases e)
set_option maxHeartbeats 4000000 in
theorem lawPk_any (A : Option Addr) (n c : Nat) (xs : List Int) (t : Int) (g : Int) (w : World) (hn_xs : xs.length = n) (hc_xs : n ≤ c) (hr_xs : Rd w A xs) :
    Calls Try.prog 3 #[.slice A n c, .int .i64 t, .int .i64 g] w fun en w9 => en = .returned (.bool true) ∧ Below w.heap.size w w9 := by
  by_cases hbig_xs : 1048576 < n
  · go_enter Try.func3, Try.ntmps3
    go_wp2
    go_ret
    exact ⟨rfl, Below.refl _ _⟩
  go_enter Try.func3, Try.ntmps3
  have hL0 : (poVal xs t g).length ≤ 1048576 := poVal_len
  go_wp2_with fail
  refine (toInt64S_any A n c xs _ hn_xs (by omega) hr_xs).mono ?_
  rintro en w1 ⟨rfl, hz1, hc1, hb1⟩
  have ho1 := OwnR.of_cells hn_xs (Nat.lt_of_succ_le hz1) hc1
  go_wp2_with fail
  refine (sPox_any _ n n xs t g _ hn_xs (Nat.le_refl _) (by omega) ho1.rd ⟨_, rfl⟩).mono ?_
  rintro en w2 ⟨A0_2, c0_2, rfl, ho0_2, hb2⟩
  have q2_base := bseq hb1 hb2
  have q2_r_xs := bseq hb1 hb2
  go_wp2_with fail
  refine (toInt64S_any A n c xs _ hn_xs (by omega) (hr_xs.below q2_r_xs)).mono ?_
  rintro en w3 ⟨rfl, hz3, hc3, hb3⟩
  have q3_base := bseq q2_base hb3
  have q3_r_xs := bseq q2_r_xs hb3
  have ho3 := OwnR.of_cells hn_xs (Nat.lt_of_succ_le hz3) hc3
  go_wp2_with fail
  refine (iPo2x_any _ n n xs t g _ hn_xs (Nat.le_refl _) (by omega) ho3.rd ⟨_, rfl⟩).mono ?_
  rintro en w4 ⟨A0_4, c0_4, rfl, ho0_4, hb4⟩
  have q4_base := bseq q3_base hb4
  have q4_r_xs := bseq q3_r_xs hb4
  have q4_W0 := bseq hb3 hb4
  go_wp2_with fail
  refine (eqInt64S_any _ _ (poVal xs t g).length (poVal xs t g).length c0_4 c0_2 (poVal xs t g) (poVal xs t g) _ rfl rfl (by omega) (by omega) ho0_4.rd (ho0_2.below q4_W0).rd).mono ?_
  rintro en w5 ⟨rfl, hb5⟩
  have q5_base := bseq q4_base hb5
  have q5_r_xs := bseq q4_r_xs hb5
  have q5_W0 := bseq q4_W0 hb5
  have q5_x0 := bseq hb4 hb5
  rw [decide_eq_true rfl]
  go_wp2_with fail
  refine (toInt64S_any A n c xs _ hn_xs (by omega) (hr_xs.below q5_r_xs)).mono ?_
  rintro en w6 ⟨rfl, hz6, hc6, hb6⟩
  have q6_base := bseq q5_base hb6
  have q6_r_xs := bseq q5_r_xs hb6
  have q6_W0 := bseq q5_W0 hb6
  have q6_x0 := bseq q5_x0 hb6
  have q6_G0 := bseq hb5 hb6
  have ho6 := OwnR.of_cells hn_xs (Nat.lt_of_succ_le hz6) hc6
  go_wp2_with fail
  refine (eqInt64S_any _ _ n n n n xs xs _ hn_xs hn_xs (by omega) (by omega) (ho3.below q6_x0).rd ho6.rd).mono ?_
  rintro en w7 ⟨rfl, hb7⟩
  have q7_base := bseq q6_base hb7
  have q7_r_xs := bseq q6_r_xs hb7
  have q7_W0 := bseq q6_W0 hb7
  have q7_x0 := bseq q6_x0 hb7
  have q7_G0 := bseq q6_G0 hb7
  rw [decide_eq_true rfl]
  go_wp2_with fail
  refine (mark_any (some ⟨w2.heap.size, 0, none⟩) n n w2.heap.size xs 1 _ (ho3.below q7_x0) (by omega) (by omega) (by omega)).mono ?_
  rintro en w8 ⟨rfl, hm8, hg8⟩
  have q8_base := Below.grown q7_base hg8 q7_base.size (fun k hk => Nat.le_trans q2_base.size (OwnR.ge (ho3.below q7_x0) k hk))
  have q8_r_xs := Below.grown q7_r_xs hg8 q7_r_xs.size (fun k hk => Nat.le_trans q2_r_xs.size (OwnR.ge (ho3.below q7_x0) k hk))
  have q8_W0 := Below.grown q7_W0 hg8 q7_W0.size (fun k hk => Nat.le_trans (Nat.le_refl _) (OwnR.ge (ho3.below q7_x0) k hk))
  have f8_G0 := OwnR.far (ho0_4.below q7_G0) (g2 := w2.heap.size) hg8 (Nat.lt_of_lt_of_le (Nat.lt_of_succ_le hz3) (Nat.le_refl _))
  go_wp2_with fail
  refine (eqInt64S_any _ _ (poVal xs t g).length (poVal xs t g).length c0_4 c0_2 (poVal xs t g) (poVal xs t g) _ rfl rfl (by omega) (by omega) f8_G0.rd (ho0_2.below q8_W0).rd).mono ?_
  rintro en w9 ⟨rfl, hb9⟩
  have q9_base := bseq q8_base hb9
  have q9_r_xs := bseq q8_r_xs hb9
  have q9_W0 := bseq q8_W0 hb9
  rw [decide_eq_true rfl]
  go_wp2_with fail
  refine (mark_any A0_4 (poVal xs t g).length c0_4 w3.heap.size (poVal xs t g) 1 _ (f8_G0.below hb9) (by omega) (by omega) (by omega)).mono ?_
  rintro en w10 ⟨rfl, hm10, hg10⟩
  have q10_base := Below.grown q9_base hg10 q9_base.size (fun k hk => Nat.le_trans q3_base.size (OwnR.ge (f8_G0.below hb9) k hk))
  have q10_r_xs := Below.grown q9_r_xs hg10 q9_r_xs.size (fun k hk => Nat.le_trans q3_r_xs.size (OwnR.ge (f8_G0.below hb9) k hk))
  have q10_W0 := Below.grown q9_W0 hg10 q9_W0.size (fun k hk => Nat.le_trans hb3.size (OwnR.ge (f8_G0.below hb9) k hk))
  go_wp2_with fail
  refine (held_any A0_4 (poVal xs t g).length c0_4 w3.heap.size 1 _ hm10 (by omega) (by omega) (by omega)).mono ?_
  rintro en wh1 ⟨rfl, rfl⟩
  go_wp2_with fail
  refine (toInt64S_any A n c xs _ hn_xs (by omega) (hr_xs.below q10_r_xs)).mono ?_
  rintro en w11 ⟨rfl, hz11, hc11, hb11⟩
  have q11_base := bseq q10_base hb11
  have q11_r_xs := bseq q10_r_xs hb11
  have q11_W0 := bseq q10_W0 hb11
  have ho11 := OwnR.of_cells hn_xs (Nat.lt_of_succ_le hz11) hc11
  go_wp2_with fail
  refine (iPo2x_any _ n n xs t g _ hn_xs (Nat.le_refl _) (by omega) ho11.rd ⟨_, rfl⟩).mono ?_
  rintro en w12 ⟨A0_12, c0_12, rfl, ho0_12, hb12⟩
  have q12_base := bseq q11_base hb12
  have q12_r_xs := bseq q11_r_xs hb12
  have q12_W0 := bseq q11_W0 hb12
  have q12_G0 := bseq hb11 hb12
  go_wp2_with fail
  refine (eqInt64S_any _ _ (poVal xs t g).length (poVal xs t g).length c0_12 c0_2 (poVal xs t g) (poVal xs t g) _ rfl rfl (by omega) (by omega) ho0_12.rd (ho0_2.below q12_W0).rd).mono ?_
  rintro en w13 ⟨rfl, hb13⟩
  have q13_base := bseq q12_base hb13
  have q13_r_xs := bseq q12_r_xs hb13
  have q13_W0 := bseq q12_W0 hb13
  have q13_G0 := bseq q12_G0 hb13
  rw [decide_eq_true rfl]
  go_wp2_with fail
  refine (held_any A0_4 (poVal xs t g).length c0_4 w3.heap.size 1 _ (hm10.below q13_G0) (by omega) (by omega) (by omega)).mono ?_
  rintro en wh2 ⟨rfl, rfl⟩
  go_wp2
  go_ret
  exact ⟨rfl, q13_base⟩
end Go.Proofs.Ytgfhmihnnjcagaa
