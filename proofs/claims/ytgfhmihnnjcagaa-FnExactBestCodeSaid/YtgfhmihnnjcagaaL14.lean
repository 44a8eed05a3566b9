/- the law, walked: BestCode -/
import Derived.Test.YtgfhmihnnjcagaaW15
import Derived.Test.YtgfhmihnnjcagaaMark
set_option linter.unusedVariables false
set_option linter.unusedSimpArgs false
namespace Go.Proofs.Ytgfhmihnnjcagaa
open Go.RowKit
set_option maxHeartbeats 4000000 in
theorem lawBc_any (n : Int) (w : World)  :
    Calls Try.prog 14 #[.int .i64 n] w fun en w9 => en = .returned (.bool true) ∧ Below w.heap.size w w9 := by
  go_enter Try.func14, Try.ntmps14
  have hL0 : (bcVal n).length ≤ 1048576 := bcVal_len
  go_wp2_with fail
  refine (sBest_any n _ ).mono ?_
  rintro en w1 ⟨A0_1, c0_1, rfl, ho0_1, hb1⟩
  go_wp2_with fail
  refine (iBest_any n _ ).mono ?_
  rintro en w2 ⟨A0_2, c0_2, rfl, ho0_2, hb2⟩
  have q2_base := bseq hb1 hb2
  go_wp2_with fail
  refine (eqInt64S_any _ _ (bcVal n).length (bcVal n).length c0_2 c0_1 (bcVal n) (bcVal n) _ rfl rfl (by omega) (by omega) ho0_2.rd (ho0_1.below hb2).rd).mono ?_
  rintro en w3 ⟨rfl, hb3⟩
  have q3_base := bseq q2_base hb3
  have q3_W0 := bseq hb2 hb3
  rw [decide_eq_true rfl]
  go_wp2_with fail
  refine (mark_any A0_2 (bcVal n).length c0_2 w1.heap.size (bcVal n) 1 _ (ho0_2.below hb3) (by omega) (by omega) (by omega)).mono ?_
  rintro en w4 ⟨rfl, hm4, hg4⟩
  have q4_base := Below.grown q3_base hg4 q3_base.size (fun k hk => Nat.le_trans hb1.size (OwnR.ge (ho0_2.below hb3) k hk))
  have q4_W0 := Below.grown q3_W0 hg4 q3_W0.size (fun k hk => Nat.le_trans (Nat.le_refl _) (OwnR.ge (ho0_2.below hb3) k hk))
  go_wp2_with fail
  refine (held_any A0_2 (bcVal n).length c0_2 w1.heap.size 1 _ hm4 (by omega) (by omega) (by omega)).mono ?_
  rintro en wh1 ⟨rfl, rfl⟩
  go_wp2_with fail
  refine (iBest_any n _ ).mono ?_
  rintro en w5 ⟨A0_5, c0_5, rfl, ho0_5, hb5⟩
  have q5_base := bseq q4_base hb5
  have q5_W0 := bseq q4_W0 hb5
  go_wp2_with fail
  refine (eqInt64S_any _ _ (bcVal n).length (bcVal n).length c0_5 c0_1 (bcVal n) (bcVal n) _ rfl rfl (by omega) (by omega) ho0_5.rd (ho0_1.below q5_W0).rd).mono ?_
  rintro en w6 ⟨rfl, hb6⟩
  have q6_base := bseq q5_base hb6
  have q6_W0 := bseq q5_W0 hb6
  have q6_G0 := bseq hb5 hb6
  rw [decide_eq_true rfl]
  go_wp2_with fail
  refine (held_any A0_2 (bcVal n).length c0_2 w1.heap.size 1 _ (hm4.below q6_G0) (by omega) (by omega) (by omega)).mono ?_
  rintro en wh2 ⟨rfl, rfl⟩
  go_wp2
  go_ret
  exact ⟨rfl, q6_base⟩
end Go.Proofs.Ytgfhmihnnjcagaa
