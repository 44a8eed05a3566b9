/- the law, walked: BestBeam -/
import Derived.Test.YtfmhbphbgdijpaaW20
import Derived.Test.YtfmhbphbgdijpaaW5
set_option linter.unusedVariables false
set_option linter.unusedSimpArgs false
namespace Go.Proofs.Ytfmhbphbgdijpaa
open Go.RowKit
set_option maxRecDepth 100000 in
set_option maxHeartbeats 8000000 in
theorem lawBb_any (A : Option Addr) (n c : Nat) (rows : List (List Int)) (B : Option Addr) (p d : Nat) (xs : List Int) (D : Option Addr) (m dc : Nat) (f g e : Nat → Int) (r : Int) (v : Int) (w : World) (hn_rows : rows.length = n) (hc_rows : n ≤ 9223372036854775807) (hr_rows : RdM w A rows) (hn_xs : xs.length = p) (hc_xs : p ≤ d) (hr_xs : Rd w B xs) (hc_f : m ≤ 9223372036854775807) (hr_f : RdD w D m f g e) :
    Calls Try.prog 12 #[.slice A n c, .slice B p d, .slice D m dc, .int .i64 r, .int .i64 v] w fun en w9 => en = .returned (.bool true) ∧ Below w.heap.size w w9 := by
  by_cases hbig_xs : 1048576 < p
  · go_enter Try.func12, Try.ntmps12
    go_wp2
    go_ret
    exact ⟨rfl, by go_grown⟩
  go_enter Try.func12, Try.ntmps12
  have hr1_rows := hr_rows
  have hr1_xs := hr_xs
  have hr1_f := hr_f
  have R_rows := Lib.hid hr1_rows
  clear hr1_rows hr_rows
  have R_xs := Lib.hid hr1_xs
  clear hr1_xs hr_xs
  have R_f := Lib.hid hr1_f
  clear hr1_f hr_f
  go_wp2_with fail
  refine (szSS_any A n c rows _ hn_rows hc_rows (R_rows.out.below (Below.refl _ _))).mono ?_
  rintro en wz ⟨z, rfl, rfl, HZ⟩
  by_cases hz : 0 ≤ z
  rotate_left
  · have hz2 : z < 0 := by omega
    go_wp2
    go_ret
    exact ⟨rfl, (Below.refl _ _)⟩
  have hz2 : ¬ z < 0 := by omega
  have hz9 := HZ hz
  have htot : totTo rows n ≤ 1048576 := by omega
  have hnn : n ≤ 1048576 := by omega
  have hrow_rows : ∀ k, k < n → (rows.getD k []).length ≤ 1048576 := fun k hk => Nat.le_trans (totTo_row hk) htot
  clear HZ
  have HZ9 := Lib.hid hz9
  have hzb : z ≤ 1048576 := by omega
  clear hz9
  go_wp2_with fail
  refine (szD_any D m dc z _ hc_f hz (by omega)).mono ?_
  rintro en wz ⟨rfl, rfl⟩
  by_cases hzm : z < m
  · rw [if_pos hzm]
    have hz3 : (-1 : Int) < 0 := by decide
    go_wp2
    go_ret
    exact ⟨rfl, (Below.refl _ _)⟩
  rw [if_neg hzm]
  have hz3 : ¬ z - (m : Int) < 0 := by omega
  have hmm : m ≤ 1048576 := by omega
  go_wp2_with fail
  refine (toSS_any A n c rows _ hn_rows (by omega) hrow_rows (R_rows.out.below (Below.refl _ _))).mono ?_
  rintro en w1 ⟨rfl, hO, hb⟩
  have hz1 := hb.size
  have HB1 := Lib.hid hb
  have K1_s0 := Lib.hid (hO)
  clear hb hO
  go_wp2_with fail
  refine (toInt64S_any B p d xs _ hn_xs (by omega) (R_xs.out.below HB1.out)).mono ?_
  rintro en w2 ⟨rfl, hz, hc, hb⟩
  have hO := OwnR.of_cells hn_xs (Nat.lt_of_succ_le hz) hc
  have hz2 := hb.size
  have K2_s0 := Lib.hid (K1_s0.out.below hb)
  have HB2 := Lib.hid (bseq HB1.out hb)
  have K2_s1 := Lib.hid (OwnI.of hO)
  clear hb K1_s0 HB1 hO
  clear hz hc
  go_wp2_with fail
  refine (toDirS_any D m dc f g e _ (by omega) (R_f.out.below HB2.out)).mono ?_
  rintro en w3 ⟨rfl, hO, hb⟩
  have hz3 := hb.size
  have K3_s0 := Lib.hid (K2_s0.out.below hb)
  have K3_s1 := Lib.hid (K2_s1.out.below hb)
  have HB3 := Lib.hid (bseq HB2.out hb)
  have K3_s2 := Lib.hid (hO)
  clear hb K2_s0 K2_s1 HB2 hO
  go_wp2_with fail
  refine (sBb_any _ n n rows _ p p xs _ m m f g e r v _ hn_rows hnn hrow_rows K3_s0.out.rdM hn_xs (Nat.le_refl _) (by omega) K3_s1.out.rd hmm K3_s2.out.rd).mono ?_
  rintro en w4 ⟨rfl, hb⟩
  have hz4 := hb.size
  have K4_s0 := Lib.hid (K3_s0.out.below hb)
  have K4_s1 := Lib.hid (K3_s1.out.below hb)
  have K4_s2 := Lib.hid (K3_s2.out.below hb)
  have HB4 := Lib.hid (bseq HB3.out hb)
  clear hb K3_s0 K3_s1 K3_s2 HB3
  clear K4_s0
  clear K4_s1
  clear K4_s2
  go_wp2_with fail
  refine (toSS_any A n c rows _ hn_rows (by omega) hrow_rows (R_rows.out.below HB4.out)).mono ?_
  rintro en w5 ⟨rfl, hO, hb⟩
  have hz5 := hb.size
  have HB5 := Lib.hid (bseq HB4.out hb)
  have K5_x0 := Lib.hid (hO)
  clear hb HB4 hO
  go_wp2_with fail
  refine (toInt64S_any B p d xs _ hn_xs (by omega) (R_xs.out.below HB5.out)).mono ?_
  rintro en w6 ⟨rfl, hz, hc, hb⟩
  have hO := OwnR.of_cells hn_xs (Nat.lt_of_succ_le hz) hc
  have hz6 := hb.size
  have K6_x0 := Lib.hid (K5_x0.out.below hb)
  have HB6 := Lib.hid (bseq HB5.out hb)
  have K6_x1 := Lib.hid (OwnI.of hO)
  clear hb K5_x0 HB5 hO
  clear hz hc
  go_wp2_with fail
  refine (toDirS_any D m dc f g e _ (by omega) (R_f.out.below HB6.out)).mono ?_
  rintro en w7 ⟨rfl, hO, hb⟩
  have hz7 := hb.size
  have K7_x0 := Lib.hid (K6_x0.out.below hb)
  have K7_x1 := Lib.hid (K6_x1.out.below hb)
  have HB7 := Lib.hid (bseq HB6.out hb)
  have K7_x2 := Lib.hid (hO)
  clear hb K6_x0 K6_x1 HB6 hO
  go_wp2_with fail
  refine (iBb_any _ n n rows _ p p xs _ m m f g e r v _ hn_rows hnn hrow_rows K7_x0.out.rdM hn_xs (Nat.le_refl _) (by omega) K7_x1.out.rd hmm K7_x2.out.rd).mono ?_
  rintro en w8 ⟨rfl, hb⟩
  have hz8 := hb.size
  have K8_x0 := Lib.hid (K7_x0.out.below hb)
  have K8_x1 := Lib.hid (K7_x1.out.below hb)
  have K8_x2 := Lib.hid (K7_x2.out.below hb)
  have HB8 := Lib.hid (bseq HB7.out hb)
  clear hb K7_x0 K7_x1 K7_x2 HB7
  go_wp2_with fail
  refine (toSS_any A n c rows _ hn_rows (by omega) hrow_rows (R_rows.out.below HB8.out)).mono ?_
  rintro en w9 ⟨rfl, hO, hb⟩
  have hz9 := hb.size
  have K9_x0 := Lib.hid (K8_x0.out.below hb)
  have K9_x1 := Lib.hid (K8_x1.out.below hb)
  have K9_x2 := Lib.hid (K8_x2.out.below hb)
  have HB9 := Lib.hid (bseq HB8.out hb)
  have K9_tmp := Lib.hid (hO)
  clear hb K8_x0 K8_x1 K8_x2 HB8 hO
  go_wp2_with fail
  refine (eqSS_any _ _ n n n rows _ hn_rows (by omega) K9_x0.out.rdM K9_tmp.out.rdM).mono ?_
  rintro en w10 ⟨rfl, mq, hq⟩
  have hb := bquiet hq
  clear hq
  have hz10 := hb.size
  have K10_x0 := Lib.hid (K9_x0.out.below hb)
  have K10_x1 := Lib.hid (K9_x1.out.below hb)
  have K10_x2 := Lib.hid (K9_x2.out.below hb)
  have K10_tmp := Lib.hid (K9_tmp.out.below hb)
  have HB10 := Lib.hid (bseq HB9.out hb)
  clear hb K9_x0 K9_x1 K9_x2 K9_tmp HB9
  clear K10_tmp
  go_wp2_with fail
  refine (toInt64S_any B p d xs _ hn_xs (by omega) (R_xs.out.below HB10.out)).mono ?_
  rintro en w11 ⟨rfl, hz, hc, hb⟩
  have hO := OwnR.of_cells hn_xs (Nat.lt_of_succ_le hz) hc
  have hz11 := hb.size
  have K11_x0 := Lib.hid (K10_x0.out.below hb)
  have K11_x1 := Lib.hid (K10_x1.out.below hb)
  have K11_x2 := Lib.hid (K10_x2.out.below hb)
  have HB11 := Lib.hid (bseq HB10.out hb)
  have K11_tmp := Lib.hid (OwnI.of hO)
  clear hb K10_x0 K10_x1 K10_x2 HB10 hO
  clear hz hc
  go_wp2_with fail
  refine (eqQ_any _ _ p p p xs _ hn_xs (by omega) K11_x1.out.rd K11_tmp.out.rd).mono ?_
  rintro en w12 ⟨rfl, mq, hq⟩
  have hb := bquiet hq
  clear hq
  have hz12 := hb.size
  have K12_x0 := Lib.hid (K11_x0.out.below hb)
  have K12_x1 := Lib.hid (K11_x1.out.below hb)
  have K12_x2 := Lib.hid (K11_x2.out.below hb)
  have K12_tmp := Lib.hid (K11_tmp.out.below hb)
  have HB12 := Lib.hid (bseq HB11.out hb)
  clear hb K11_x0 K11_x1 K11_x2 K11_tmp HB11
  clear K12_tmp
  go_wp2_with fail
  refine (toDirS_any D m dc f g e _ (by omega) (R_f.out.below HB12.out)).mono ?_
  rintro en w13 ⟨rfl, hO, hb⟩
  have hz13 := hb.size
  have K13_x0 := Lib.hid (K12_x0.out.below hb)
  have K13_x1 := Lib.hid (K12_x1.out.below hb)
  have K13_x2 := Lib.hid (K12_x2.out.below hb)
  have HB13 := Lib.hid (bseq HB12.out hb)
  have K13_tmp := Lib.hid (hO)
  clear hb K12_x0 K12_x1 K12_x2 HB12 hO
  go_wp2_with fail
  refine (eqDirS_any _ _ m m m f g e _ (by omega) K13_x2.out.rd K13_tmp.out.rd).mono ?_
  rintro en w14 ⟨rfl, hb⟩
  have hz14 := hb.size
  have K14_x0 := Lib.hid (K13_x0.out.below hb)
  have K14_x1 := Lib.hid (K13_x1.out.below hb)
  have K14_x2 := Lib.hid (K13_x2.out.below hb)
  have K14_tmp := Lib.hid (K13_tmp.out.below hb)
  have HB14 := Lib.hid (bseq HB13.out hb)
  clear hb K13_x0 K13_x1 K13_x2 K13_tmp HB13
  clear K14_tmp
  go_wp2
  go_ret
  exact ⟨rfl, HB14.out⟩
end Go.Proofs.Ytfmhbphbgdijpaa
