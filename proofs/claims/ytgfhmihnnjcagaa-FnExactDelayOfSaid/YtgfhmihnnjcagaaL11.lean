/- the law, walked: DelayOf -/
import Derived.Test.YtgfhmihnnjcagaaW10
set_option linter.unusedVariables false
set_option linter.unusedSimpArgs false
namespace Go.Proofs.Ytgfhmihnnjcagaa
open Go.RowKit
set_option maxHeartbeats 4000000 in
theorem lawDl_any (A : Option Addr) (n c : Nat) (xs : List Int) (B : Option Addr) (p d : Nat) (ps : List Int) (w : World) (hn_xs : xs.length = n) (hc_xs : n ≤ c) (hr_xs : Rd w A xs) (hn_ps : ps.length = p) (hc_ps : p ≤ d) (hr_ps : Rd w B ps) :
    Calls Try.prog 11 #[.slice A n c, .slice B p d] w fun en w9 => en = .returned (.bool true) ∧ Below w.heap.size w w9 := by
  by_cases hbig_xs : 1048576 < n
  · go_enter Try.func11, Try.ntmps11
    go_wp2
    go_ret
    exact ⟨rfl, Below.refl _ _⟩
  by_cases hbig_ps : 1048576 < p
  · go_enter Try.func11, Try.ntmps11
    go_wp2
    go_ret
    exact ⟨rfl, Below.refl _ _⟩
  go_enter Try.func11, Try.ntmps11
  go_wp2_with fail
  refine (toInt64S_any A n c xs _ hn_xs (by omega) hr_xs).mono ?_
  rintro en w1 ⟨rfl, hz1, hc1, hb1⟩
  have k1_r_xs := hr_xs.below hb1
  have k1_r_ps := hr_ps.below hb1
  go_wp2_with fail
  refine (toInt64S_any B p d ps _ hn_ps (by omega) k1_r_ps).mono ?_
  rintro en w2 ⟨rfl, hz2, hc2, hb2⟩
  have k2_r_xs := k1_r_xs.below hb2
  have k2_r_ps := k1_r_ps.below hb2
  have k2_s0 := hc1.below hb2
  go_wp2_with fail
  refine (sDl_any _ n n xs _ p p ps _ hn_xs (Nat.le_refl _) (by omega) k2_s0.rd hn_ps (Nat.le_refl _) (by omega) hc2.rd).mono ?_
  rintro en w3 ⟨rfl, hb3⟩
  have k3_r_xs := k2_r_xs.below hb3
  have k3_r_ps := k2_r_ps.below hb3
  have k3_s0 := k2_s0.below hb3
  have k3_s1 := hc2.below hb3
  go_wp2_with fail
  refine (toInt64S_any A n c xs _ hn_xs (by omega) k3_r_xs).mono ?_
  rintro en w4 ⟨rfl, hz4, hc4, hb4⟩
  have k4_r_xs := k3_r_xs.below hb4
  have k4_r_ps := k3_r_ps.below hb4
  go_wp2_with fail
  refine (toInt64S_any B p d ps _ hn_ps (by omega) k4_r_ps).mono ?_
  rintro en w5 ⟨rfl, hz5, hc5, hb5⟩
  have k5_r_xs := k4_r_xs.below hb5
  have k5_r_ps := k4_r_ps.below hb5
  have k5_x0 := hc4.below hb5
  go_wp2_with fail
  refine (iDl_any _ n n xs _ p p ps _ hn_xs (Nat.le_refl _) (by omega) k5_x0.rd hn_ps (Nat.le_refl _) (by omega) hc5.rd).mono ?_
  rintro en w6 ⟨rfl, hb6⟩
  have k6_r_xs := k5_r_xs.below hb6
  have k6_r_ps := k5_r_ps.below hb6
  have k6_x0 := k5_x0.below hb6
  have k6_x1 := hc5.below hb6
  go_wp2_with fail
  refine (toInt64S_any A n c xs _ hn_xs (by omega) k6_r_xs).mono ?_
  rintro en w7 ⟨rfl, hz7, hc7, hb7⟩
  have k7_r_xs := k6_r_xs.below hb7
  have k7_r_ps := k6_r_ps.below hb7
  have k7_x0 := k6_x0.below hb7
  have k7_x1 := k6_x1.below hb7
  go_wp2_with fail
  refine (eqInt64S_any _ _ n n n n xs xs _ hn_xs hn_xs (by omega) (by omega) k7_x0.rd hc7.rd).mono ?_
  rintro en w8 ⟨rfl, hb8⟩
  have k8_r_xs := k7_r_xs.below hb8
  have k8_r_ps := k7_r_ps.below hb8
  have k8_x0 := k7_x0.below hb8
  have k8_x1 := k7_x1.below hb8
  have k8_tmp := hc7.below hb8
  rw [decide_eq_true rfl]
  go_wp2_with fail
  refine (toInt64S_any B p d ps _ hn_ps (by omega) k8_r_ps).mono ?_
  rintro en w9 ⟨rfl, hz9, hc9, hb9⟩
  have k9_r_xs := k8_r_xs.below hb9
  have k9_r_ps := k8_r_ps.below hb9
  have k9_x0 := k8_x0.below hb9
  have k9_x1 := k8_x1.below hb9
  go_wp2_with fail
  refine (eqInt64S_any _ _ p p p p ps ps _ hn_ps hn_ps (by omega) (by omega) k9_x1.rd hc9.rd).mono ?_
  rintro en w10 ⟨rfl, hb10⟩
  have k10_r_xs := k9_r_xs.below hb10
  have k10_r_ps := k9_r_ps.below hb10
  have k10_x0 := k9_x0.below hb10
  have k10_x1 := k9_x1.below hb10
  have k10_tmp := hc9.below hb10
  rw [decide_eq_true rfl]
  go_wp2
  go_ret
  exact ⟨rfl, bseq hb1 (bseq hb2 (bseq hb3 (bseq hb4 (bseq hb5 (bseq hb6 (bseq hb7 (bseq hb8 (bseq hb9 (hb10)))))))))⟩
end Go.Proofs.Ytgfhmihnnjcagaa
