/- the law, walked: BeamPower -/
import Derived.Test.YtfmhbphbgdijpaaW9
set_option linter.unusedVariables false
set_option linter.unusedSimpArgs false
namespace Go.Proofs.Ytfmhbphbgdijpaa
open Go.RowKit
set_option maxRecDepth 100000 in
set_option maxHeartbeats 8000000 in
theorem lawBp_any (A : Option Addr) (n c : Nat) (rows : List (List Int)) (B : Option Addr) (p d : Nat) (ds : List Int) (w : World) (hn_rows : rows.length = n) (hc_rows : n ≤ 9223372036854775807) (hr_rows : RdM w A rows) (hn_ds : ds.length = p) (hc_ds : p ≤ d) (hr_ds : Rd w B ds) :
    Calls Try.prog 6 #[.slice A n c, .slice B p d] w fun en w9 => en = .returned (.bool true) ∧ Below w.heap.size w w9 := by
  by_cases hbig_ds : 1048576 < p
  · go_enter Try.func6, Try.ntmps6
    go_wp2
    go_ret
    exact ⟨rfl, by go_grown⟩
  go_enter Try.func6, Try.ntmps6
  have hr1_rows := hr_rows
  have hr1_ds := hr_ds
  have R_rows := Lib.hid hr1_rows
  clear hr1_rows hr_rows
  have R_ds := Lib.hid hr1_ds
  clear hr1_ds hr_ds
  go_wp2_with fail
  refine (szSS_any A n c rows _ hn_rows hc_rows (R_rows.out.below (Below.refl _ _))).mono ?_
  rintro en wz ⟨z, rfl, rfl, HZ⟩
  by_cases hz : 0 ≤ z
  rotate_left
  · have hz2 : z < 0 := by omega
    go_wp2
    go_ret
    exact ⟨rfl, (Below.refl _ _)⟩
  have hz2 : ¬ z < 0 := by omega
  have hz9 := HZ hz
  have htot : totTo rows n ≤ 1048576 := by omega
  have hnn : n ≤ 1048576 := by omega
  have hrow_rows : ∀ k, k < n → (rows.getD k []).length ≤ 1048576 := fun k hk => Nat.le_trans (totTo_row hk) htot
  clear hz9 HZ
  go_wp2_with fail
  refine (toSS_any A n c rows _ hn_rows (by omega) hrow_rows (R_rows.out.below (Below.refl _ _))).mono ?_
  rintro en w1 ⟨rfl, hO, hb⟩
  have hz1 := hb.size
  have HB1 := Lib.hid hb
  have K1_s0 := Lib.hid (hO)
  clear hb hO
  go_wp2_with fail
  refine (toInt64S_any B p d ds _ hn_ds (by omega) (R_ds.out.below HB1.out)).mono ?_
  rintro en w2 ⟨rfl, hz, hc, hb⟩
  have hO := OwnR.of_cells hn_ds (Nat.lt_of_succ_le hz) hc
  have hz2 := hb.size
  have K2_s0 := Lib.hid (K1_s0.out.below hb)
  have HB2 := Lib.hid (bseq HB1.out hb)
  have K2_s1 := Lib.hid (OwnI.of hO)
  clear hb K1_s0 HB1 hO
  clear hz hc
  go_wp2_with fail
  refine (sBp_any _ n n rows _ p p ds _ hn_rows hnn hrow_rows K2_s0.out.rdM hn_ds (Nat.le_refl _) (by omega) K2_s1.out.rd).mono ?_
  rintro en w3 ⟨rfl, hb⟩
  have hz3 := hb.size
  have K3_s0 := Lib.hid (K2_s0.out.below hb)
  have K3_s1 := Lib.hid (K2_s1.out.below hb)
  have HB3 := Lib.hid (bseq HB2.out hb)
  clear hb K2_s0 K2_s1 HB2
  clear K3_s0
  clear K3_s1
  go_wp2_with fail
  refine (toSS_any A n c rows _ hn_rows (by omega) hrow_rows (R_rows.out.below HB3.out)).mono ?_
  rintro en w4 ⟨rfl, hO, hb⟩
  have hz4 := hb.size
  have HB4 := Lib.hid (bseq HB3.out hb)
  have K4_x0 := Lib.hid (hO)
  clear hb HB3 hO
  go_wp2_with fail
  refine (toInt64S_any B p d ds _ hn_ds (by omega) (R_ds.out.below HB4.out)).mono ?_
  rintro en w5 ⟨rfl, hz, hc, hb⟩
  have hO := OwnR.of_cells hn_ds (Nat.lt_of_succ_le hz) hc
  have hz5 := hb.size
  have K5_x0 := Lib.hid (K4_x0.out.below hb)
  have HB5 := Lib.hid (bseq HB4.out hb)
  have K5_x1 := Lib.hid (OwnI.of hO)
  clear hb K4_x0 HB4 hO
  clear hz hc
  go_wp2_with fail
  refine (iBp_any _ n n rows _ p p ds _ hn_rows hnn hrow_rows K5_x0.out.rdM hn_ds (Nat.le_refl _) (by omega) K5_x1.out.rd).mono ?_
  rintro en w6 ⟨rfl, hb⟩
  have hz6 := hb.size
  have K6_x0 := Lib.hid (K5_x0.out.below hb)
  have K6_x1 := Lib.hid (K5_x1.out.below hb)
  have HB6 := Lib.hid (bseq HB5.out hb)
  clear hb K5_x0 K5_x1 HB5
  go_wp2_with fail
  refine (toSS_any A n c rows _ hn_rows (by omega) hrow_rows (R_rows.out.below HB6.out)).mono ?_
  rintro en w7 ⟨rfl, hO, hb⟩
  have hz7 := hb.size
  have K7_x0 := Lib.hid (K6_x0.out.below hb)
  have K7_x1 := Lib.hid (K6_x1.out.below hb)
  have HB7 := Lib.hid (bseq HB6.out hb)
  have K7_tmp := Lib.hid (hO)
  clear hb K6_x0 K6_x1 HB6 hO
  go_wp2_with fail
  refine (eqSS_any _ _ n n n rows _ hn_rows (by omega) K7_x0.out.rdM K7_tmp.out.rdM).mono ?_
  rintro en w8 ⟨rfl, mq, hq⟩
  have hb := bquiet hq
  clear hq
  have hz8 := hb.size
  have K8_x0 := Lib.hid (K7_x0.out.below hb)
  have K8_x1 := Lib.hid (K7_x1.out.below hb)
  have K8_tmp := Lib.hid (K7_tmp.out.below hb)
  have HB8 := Lib.hid (bseq HB7.out hb)
  clear hb K7_x0 K7_x1 K7_tmp HB7
  clear K8_tmp
  go_wp2_with fail
  refine (toInt64S_any B p d ds _ hn_ds (by omega) (R_ds.out.below HB8.out)).mono ?_
  rintro en w9 ⟨rfl, hz, hc, hb⟩
  have hO := OwnR.of_cells hn_ds (Nat.lt_of_succ_le hz) hc
  have hz9 := hb.size
  have K9_x0 := Lib.hid (K8_x0.out.below hb)
  have K9_x1 := Lib.hid (K8_x1.out.below hb)
  have HB9 := Lib.hid (bseq HB8.out hb)
  have K9_tmp := Lib.hid (OwnI.of hO)
  clear hb K8_x0 K8_x1 HB8 hO
  clear hz hc
  go_wp2_with fail
  refine (eqQ_any _ _ p p p ds _ hn_ds (by omega) K9_x1.out.rd K9_tmp.out.rd).mono ?_
  rintro en w10 ⟨rfl, mq, hq⟩
  have hb := bquiet hq
  clear hq
  have hz10 := hb.size
  have K10_x0 := Lib.hid (K9_x0.out.below hb)
  have K10_x1 := Lib.hid (K9_x1.out.below hb)
  have K10_tmp := Lib.hid (K9_tmp.out.below hb)
  have HB10 := Lib.hid (bseq HB9.out hb)
  clear hb K9_x0 K9_x1 K9_tmp HB9
  clear K10_tmp
  go_wp2
  go_ret
  exact ⟨rfl, HB10.out⟩
end Go.Proofs.Ytfmhbphbgdijpaa
