/- the law, walked: BeamOf -/
import Derived.Test.YtfmhbphbgdijpaaW9
set_option linter.unusedVariables false
set_option linter.unusedSimpArgs false
namespace Go.Proofs.Ytfmhbphbgdijpaa
open Go.RowKit
set_option maxRecDepth 100000 in
set_option maxHeartbeats 8000000 in
theorem lawBeamOf_any (A : Option Addr) (n c : Nat) (rows : List (List Int)) (B : Option Addr) (p d : Nat) (ds : List Int) (w : World) (hn_rows : rows.length = n) (hc_rows : n ≤ 9223372036854775807) (hr_rows : RdM w A rows) (hn_ds : ds.length = p) (hc_ds : p ≤ d) (hr_ds : Rd w B ds) :
    Calls Try.prog 7 #[.slice A n c, .slice B p d] w fun en w9 => en = .returned (.bool true) ∧ Below w.heap.size w w9 := by
  by_cases hbig_ds : 1048576 < p
  · go_enter Try.func7, Try.ntmps7
    go_wp2
    go_ret
    exact ⟨rfl, by go_grown⟩
  go_enter Try.func7, Try.ntmps7
  have hr1_rows := hr_rows
  have hr1_ds := hr_ds
  have R_rows := Lib.hid hr1_rows
  clear hr1_rows hr_rows
  have R_ds := Lib.hid hr1_ds
  clear hr1_ds hr_ds
  go_wp2_with fail
  refine (szSS_any A n c rows _ hn_rows hc_rows (R_rows.out.below (Below.refl _ _))).mono ?_
  rintro en wz ⟨z, rfl, rfl, HZ⟩
  by_cases hz : 0 ≤ z
  rotate_left
  · have hz2 : z < 0 := by omega
    go_wp2
    go_ret
    exact ⟨rfl, (Below.refl _ _)⟩
  have hz2 : ¬ z < 0 := by omega
  have hz9 := HZ hz
  have htot : totTo rows n ≤ 1048576 := by omega
  have hnn : n ≤ 1048576 := by omega
  have hrow_rows : ∀ k, k < n → (rows.getD k []).length ≤ 1048576 := fun k hk => Nat.le_trans (totTo_row hk) htot
  clear hz9 HZ
  have hL0 : (bmVal rows ds).length ≤ 1048576 := bmVal_len
  go_wp2_with fail
  refine (toSS_any A n c rows _ hn_rows (by omega) hrow_rows (R_rows.out.below (Below.refl _ _))).mono ?_
  rintro en w1 ⟨rfl, hO, hb⟩
  have hz1 := hb.size
  have HB1 := Lib.hid hb
  have K1_s0 := Lib.hid (hO)
  clear hb hO
  go_wp2_with fail
  refine (toInt64S_any B p d ds _ hn_ds (by omega) (R_ds.out.below HB1.out)).mono ?_
  rintro en w2 ⟨rfl, hz, hc, hb⟩
  have hO := OwnR.of_cells hn_ds (Nat.lt_of_succ_le hz) hc
  have hz2 := hb.size
  have K2_s0 := Lib.hid (K1_s0.out.below hb)
  have HB2 := Lib.hid (bseq HB1.out hb)
  have K2_s1 := Lib.hid (OwnI.of hO)
  clear hb K1_s0 HB1 hO
  clear hz hc
  go_wp2_with fail
  refine (sBeamOf_any _ n n rows _ p p ds _ hn_rows hnn hrow_rows K2_s0.out.rdM hn_ds (Nat.le_refl _) (by omega) K2_s1.out.rd).mono ?_
  rintro en w3 ⟨A0_3, c0_3, rfl, ho0, hb⟩
  have hz3 := hb.size
  have K3_s0 := Lib.hid (K2_s0.out.below hb)
  have K3_s1 := Lib.hid (K2_s1.out.below hb)
  have HB3 := Lib.hid (bseq HB2.out hb)
  have K3_W0 := Lib.hid (OwnI.of ho0)
  clear hb K2_s0 K2_s1 HB2 ho0
  clear K3_s0
  clear K3_s1
  go_wp2_with fail
  refine (toSS_any A n c rows _ hn_rows (by omega) hrow_rows (R_rows.out.below HB3.out)).mono ?_
  rintro en w4 ⟨rfl, hO, hb⟩
  have hz4 := hb.size
  have K4_W0 := Lib.hid (K3_W0.out.below hb)
  have HB4 := Lib.hid (bseq HB3.out hb)
  have K4_x0 := Lib.hid (hO)
  clear hb K3_W0 HB3 hO
  go_wp2_with fail
  refine (toInt64S_any B p d ds _ hn_ds (by omega) (R_ds.out.below HB4.out)).mono ?_
  rintro en w5 ⟨rfl, hz, hc, hb⟩
  have hO := OwnR.of_cells hn_ds (Nat.lt_of_succ_le hz) hc
  have hz5 := hb.size
  have K5_W0 := Lib.hid (K4_W0.out.below hb)
  have K5_x0 := Lib.hid (K4_x0.out.below hb)
  have HB5 := Lib.hid (bseq HB4.out hb)
  have K5_x1 := Lib.hid (OwnI.of hO)
  clear hb K4_W0 K4_x0 HB4 hO
  clear hz hc
  go_wp2_with fail
  refine (iBeamOf_any _ n n rows _ p p ds _ hn_rows hnn hrow_rows K5_x0.out.rdM hn_ds (Nat.le_refl _) (by omega) K5_x1.out.rd).mono ?_
  rintro en w6 ⟨A0_6, c0_6, rfl, ho0, hb⟩
  have hz6 := hb.size
  have K6_W0 := Lib.hid (K5_W0.out.below hb)
  have K6_x0 := Lib.hid (K5_x0.out.below hb)
  have K6_x1 := Lib.hid (K5_x1.out.below hb)
  have HB6 := Lib.hid (bseq HB5.out hb)
  have K6_G0 := Lib.hid (OwnI.of ho0)
  clear hb K5_W0 K5_x0 K5_x1 HB5 ho0
  go_wp2_with fail
  refine (eqQ_any _ _ (bmVal rows ds).length c0_6 c0_3 (bmVal rows ds) _ rfl (by omega) K6_G0.out.rd K6_W0.out.rd).mono ?_
  rintro en w7 ⟨rfl, mq, hq⟩
  have hb := bquiet hq
  clear hq
  have hz7 := hb.size
  have K7_W0 := Lib.hid (K6_W0.out.below hb)
  have K7_x0 := Lib.hid (K6_x0.out.below hb)
  have K7_x1 := Lib.hid (K6_x1.out.below hb)
  have K7_G0 := Lib.hid (K6_G0.out.below hb)
  have HB7 := Lib.hid (bseq HB6.out hb)
  clear hb K6_W0 K6_x0 K6_x1 K6_G0 HB6
  go_wp2_with fail
  refine (toSS_any A n c rows _ hn_rows (by omega) hrow_rows (R_rows.out.below HB7.out)).mono ?_
  rintro en w8 ⟨rfl, hO, hb⟩
  have hz8 := hb.size
  have K8_W0 := Lib.hid (K7_W0.out.below hb)
  have K8_x0 := Lib.hid (K7_x0.out.below hb)
  have K8_x1 := Lib.hid (K7_x1.out.below hb)
  have K8_G0 := Lib.hid (K7_G0.out.below hb)
  have HB8 := Lib.hid (bseq HB7.out hb)
  have K8_tmp := Lib.hid (hO)
  clear hb K7_W0 K7_x0 K7_x1 K7_G0 HB7 hO
  go_wp2_with fail
  refine (eqSS_any _ _ n n n rows _ hn_rows (by omega) K8_x0.out.rdM K8_tmp.out.rdM).mono ?_
  rintro en w9 ⟨rfl, mq, hq⟩
  have hb := bquiet hq
  clear hq
  have hz9 := hb.size
  have K9_W0 := Lib.hid (K8_W0.out.below hb)
  have K9_x0 := Lib.hid (K8_x0.out.below hb)
  have K9_x1 := Lib.hid (K8_x1.out.below hb)
  have K9_G0 := Lib.hid (K8_G0.out.below hb)
  have K9_tmp := Lib.hid (K8_tmp.out.below hb)
  have HB9 := Lib.hid (bseq HB8.out hb)
  clear hb K8_W0 K8_x0 K8_x1 K8_G0 K8_tmp HB8
  clear K9_tmp
  go_wp2_with fail
  refine (toInt64S_any B p d ds _ hn_ds (by omega) (R_ds.out.below HB9.out)).mono ?_
  rintro en w10 ⟨rfl, hz, hc, hb⟩
  have hO := OwnR.of_cells hn_ds (Nat.lt_of_succ_le hz) hc
  have hz10 := hb.size
  have K10_W0 := Lib.hid (K9_W0.out.below hb)
  have K10_x0 := Lib.hid (K9_x0.out.below hb)
  have K10_x1 := Lib.hid (K9_x1.out.below hb)
  have K10_G0 := Lib.hid (K9_G0.out.below hb)
  have HB10 := Lib.hid (bseq HB9.out hb)
  have K10_tmp := Lib.hid (OwnI.of hO)
  clear hb K9_W0 K9_x0 K9_x1 K9_G0 HB9 hO
  clear hz hc
  go_wp2_with fail
  refine (eqQ_any _ _ p p p ds _ hn_ds (by omega) K10_x1.out.rd K10_tmp.out.rd).mono ?_
  rintro en w11 ⟨rfl, mq, hq⟩
  have hb := bquiet hq
  clear hq
  have hz11 := hb.size
  have K11_W0 := Lib.hid (K10_W0.out.below hb)
  have K11_x0 := Lib.hid (K10_x0.out.below hb)
  have K11_x1 := Lib.hid (K10_x1.out.below hb)
  have K11_G0 := Lib.hid (K10_G0.out.below hb)
  have K11_tmp := Lib.hid (K10_tmp.out.below hb)
  have HB11 := Lib.hid (bseq HB10.out hb)
  clear hb K10_W0 K10_x0 K10_x1 K10_G0 K10_tmp HB10
  clear K11_tmp
  go_wp2_with fail
  refine (markSS_any (some ⟨w3.heap.size, 0, none⟩) n n _ _ rows 1 _ K11_x0.out (by omega) (by omega) (by omega)).mono ?_
  rintro en w12 ⟨rfl, hO, hk⟩
  have hz12 := hk.size
  have K12_W0 := Lib.hid (K11_W0.out.kept hk (by first | (left; omega) | (right; omega)))
  have K12_x1 := Lib.hid (K11_x1.out.kept hk (by first | (left; omega) | (right; omega)))
  have K12_G0 := Lib.hid (K11_G0.out.kept hk (by first | (left; omega) | (right; omega)))
  have HB12 : Hid (Below w.heap.size w w12) := HB11.out.trans (hk.to_below (by omega) (by omega))
  have K12_x0 := Lib.hid hO
  clear hO hk K11_x0 K11_W0 K11_x1 K11_G0 HB11
  clear K12_x0
  go_wp2_with fail
  refine (markI_any (some ⟨w4.heap.size, 0, none⟩) p p _ _ ds (1 + (totTo rows n : Nat)) _ K12_x1.out (by omega) (by omega) (by omega)).mono ?_
  rintro en w13 ⟨rfl, hO, hk⟩
  have hz13 := hk.size
  have K13_W0 := Lib.hid (K12_W0.out.kept hk (by first | (left; omega) | (right; omega)))
  have K13_G0 := Lib.hid (K12_G0.out.kept hk (by first | (left; omega) | (right; omega)))
  have HB13 : Hid (Below w.heap.size w w13) := HB12.out.trans (hk.to_below (by omega) (by omega))
  have K13_x1 := Lib.hid hO
  clear hO hk K12_x1 K12_W0 K12_G0 HB12
  clear K13_x1
  go_wp2_with fail
  refine (eqQ_any _ _ (bmVal rows ds).length c0_6 c0_3 (bmVal rows ds) _ rfl (by omega) K13_G0.out.rd K13_W0.out.rd).mono ?_
  rintro en w14 ⟨rfl, mq, hq⟩
  have hb := bquiet hq
  clear hq
  have hz14 := hb.size
  have K14_W0 := Lib.hid (K13_W0.out.below hb)
  have K14_G0 := Lib.hid (K13_G0.out.below hb)
  have HB14 := Lib.hid (bseq HB13.out hb)
  clear hb K13_W0 K13_G0 HB13
  go_wp2_with fail
  refine (markI_any A0_6 (bmVal rows ds).length c0_6 _ _ (bmVal rows ds) 1 _ K14_G0.out (by omega) (by omega) (by omega)).mono ?_
  rintro en w15 ⟨rfl, hO, hk⟩
  have hz15 := hk.size
  have K15_W0 := Lib.hid (K14_W0.out.kept hk (by first | (left; omega) | (right; omega)))
  have HB15 : Hid (Below w.heap.size w w15) := HB14.out.trans (hk.to_below (by omega) (by omega))
  have K15_G0 := Lib.hid hO
  clear hO hk K14_G0 K14_W0 HB14
  go_wp2_with fail
  refine (heldI_any A0_6 (bmVal rows ds).length c0_6 _ _ 1 _ K15_G0.out (by omega) (by omega) (by omega)).mono ?_
  rintro en wz ⟨rfl, rfl⟩
  go_wp2_with fail
  refine (toSS_any A n c rows _ hn_rows (by omega) hrow_rows (R_rows.out.below HB15.out)).mono ?_
  rintro en w16 ⟨rfl, hO, hb⟩
  have hz16 := hb.size
  have K16_W0 := Lib.hid (K15_W0.out.below hb)
  have K16_G0 := Lib.hid (K15_G0.out.below hb)
  have HB16 := Lib.hid (bseq HB15.out hb)
  have K16_h0 := Lib.hid (hO)
  clear hb K15_W0 K15_G0 HB15 hO
  go_wp2_with fail
  refine (toInt64S_any B p d ds _ hn_ds (by omega) (R_ds.out.below HB16.out)).mono ?_
  rintro en w17 ⟨rfl, hz, hc, hb⟩
  have hO := OwnR.of_cells hn_ds (Nat.lt_of_succ_le hz) hc
  have hz17 := hb.size
  have K17_W0 := Lib.hid (K16_W0.out.below hb)
  have K17_G0 := Lib.hid (K16_G0.out.below hb)
  have K17_h0 := Lib.hid (K16_h0.out.below hb)
  have HB17 := Lib.hid (bseq HB16.out hb)
  have K17_h1 := Lib.hid (OwnI.of hO)
  clear hb K16_W0 K16_G0 K16_h0 HB16 hO
  clear hz hc
  go_wp2_with fail
  refine (iBeamOf_any _ n n rows _ p p ds _ hn_rows hnn hrow_rows K17_h0.out.rdM hn_ds (Nat.le_refl _) (by omega) K17_h1.out.rd).mono ?_
  rintro en w18 ⟨A0_18, c0_18, rfl, ho0, hb⟩
  have hz18 := hb.size
  have K18_W0 := Lib.hid (K17_W0.out.below hb)
  have K18_G0 := Lib.hid (K17_G0.out.below hb)
  have K18_h0 := Lib.hid (K17_h0.out.below hb)
  have K18_h1 := Lib.hid (K17_h1.out.below hb)
  have HB18 := Lib.hid (bseq HB17.out hb)
  have K18_H0 := Lib.hid (OwnI.of ho0)
  clear hb K17_W0 K17_G0 K17_h0 K17_h1 HB17 ho0
  clear K18_h0
  clear K18_h1
  go_wp2_with fail
  refine (eqQ_any _ _ (bmVal rows ds).length c0_18 c0_3 (bmVal rows ds) _ rfl (by omega) K18_H0.out.rd K18_W0.out.rd).mono ?_
  rintro en w19 ⟨rfl, mq, hq⟩
  have hb := bquiet hq
  clear hq
  have hz19 := hb.size
  have K19_W0 := Lib.hid (K18_W0.out.below hb)
  have K19_G0 := Lib.hid (K18_G0.out.below hb)
  have K19_H0 := Lib.hid (K18_H0.out.below hb)
  have HB19 := Lib.hid (bseq HB18.out hb)
  clear hb K18_W0 K18_G0 K18_H0 HB18
  go_wp2_with fail
  refine (heldI_any A0_6 (bmVal rows ds).length c0_6 _ _ 1 _ K19_G0.out (by omega) (by omega) (by omega)).mono ?_
  rintro en wz ⟨rfl, rfl⟩
  go_wp2
  go_ret
  exact ⟨rfl, HB19.out⟩
end Go.Proofs.Ytfmhbphbgdijpaa
