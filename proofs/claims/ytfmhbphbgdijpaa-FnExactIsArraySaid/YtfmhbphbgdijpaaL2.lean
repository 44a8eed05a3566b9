/- the law, walked: IsArray -/
import Derived.Test.YtfmhbphbgdijpaaW2
set_option linter.unusedVariables false
set_option linter.unusedSimpArgs false
namespace Go.Proofs.Ytfmhbphbgdijpaa
open Go.RowKit
set_option maxHeartbeats 4000000 in
theorem lawArr_any (A : Option Addr) (n c : Nat) (xs : List Int) (w : World) (hn_xs : xs.length = n) (hc_xs : n ≤ c) (hr_xs : Rd w A xs) :
    Calls Try.prog 3 #[.slice A n c] w fun en w9 => en = .returned (.bool true) ∧ Below w.heap.size w w9 := by
  by_cases hbig_xs : 1048576 < n
  · go_enter Try.func3, Try.ntmps3
    go_wp2
    go_ret
    exact ⟨rfl, Below.refl _ _⟩
  go_enter Try.func3, Try.ntmps3
  go_wp2_with fail
  refine (toInt64S_any A n c xs _ hn_xs (by omega) hr_xs).mono ?_
  rintro en w1 ⟨rfl, hz1, hc1, hb1⟩
  have k1_r_xs := hr_xs.below hb1
  go_wp2_with fail
  refine (sArr_any _ n n xs _ hn_xs (Nat.le_refl _) (by omega) hc1.rd).mono ?_
  rintro en w2 ⟨rfl, mq2, hq2⟩
  have hb2 := bquiet hq2
  clear hq2
  have k2_r_xs := k1_r_xs.below hb2
  have k2_s0 := hc1.below hb2
  go_wp2_with fail
  refine (toInt64S_any A n c xs _ hn_xs (by omega) k2_r_xs).mono ?_
  rintro en w3 ⟨rfl, hz3, hc3, hb3⟩
  have k3_r_xs := k2_r_xs.below hb3
  go_wp2_with fail
  refine (iArr_any _ n n xs _ hn_xs (Nat.le_refl _) (by omega) hc3.rd).mono ?_
  rintro en w4 ⟨rfl, mq4, hq4⟩
  have hb4 := bquiet hq4
  clear hq4
  have k4_r_xs := k3_r_xs.below hb4
  have k4_x0 := hc3.below hb4
  go_wp2_with fail
  refine (toInt64S_any A n c xs _ hn_xs (by omega) k4_r_xs).mono ?_
  rintro en w5 ⟨rfl, hz5, hc5, hb5⟩
  have k5_r_xs := k4_r_xs.below hb5
  have k5_x0 := k4_x0.below hb5
  go_wp2_with fail
  refine (eqInt64S_any _ _ n n n n xs xs _ hn_xs hn_xs (by omega) (by omega) k5_x0.rd hc5.rd).mono ?_
  rintro en w6 ⟨rfl, hb6⟩
  have k6_r_xs := k5_r_xs.below hb6
  have k6_x0 := k5_x0.below hb6
  have k6_tmp := hc5.below hb6
  rw [decide_eq_true rfl]
  go_wp2
  go_ret
  exact ⟨rfl, bseq hb1 (bseq hb2 (bseq hb3 (bseq hb4 (bseq hb5 (hb6)))))⟩
end Go.Proofs.Ytfmhbphbgdijpaa
