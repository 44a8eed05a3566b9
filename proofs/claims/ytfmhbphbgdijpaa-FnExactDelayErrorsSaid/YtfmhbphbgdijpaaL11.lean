/- the law, walked: DelayErrors -/
import Derived.Test.YtfmhbphbgdijpaaW15
import Derived.Test.YtfmhbphbgdijpaaW5
set_option linter.unusedVariables false
set_option linter.unusedSimpArgs false
namespace Go.Proofs.Ytfmhbphbgdijpaa
open Go.RowKit
set_option maxRecDepth 100000 in
set_option maxHeartbeats 8000000 in
theorem lawDe_any (A : Option Addr) (n c : Nat) (xs : List Int) (cc s h : Int) (r : Int) (v : Int) (w : World) (hn_xs : xs.length = n) (hc_xs : n ≤ c) (hr_xs : Rd w A xs) :
    Calls Try.prog 9 #[.slice A n c, .agg #[.int .i64 cc, .int .i64 s, .int .i64 h], .int .i64 r, .int .i64 v] w fun en w9 => en = .returned (.bool true) ∧ Below w.heap.size w w9 := by
  by_cases hbig_xs : 1048576 < n
  · go_enter Try.func9, Try.ntmps9
    go_wp2
    go_ret
    exact ⟨rfl, by go_grown⟩
  go_enter Try.func9, Try.ntmps9
  go_wp2_with fail
  have hB0 : Below w.heap.size w (w.alloc (.cells #[.int .i64 cc, .int .i64 s, .int .i64 h] 49)) := by go_grown
  have fd0 : (w.alloc (.cells #[.int .i64 cc, .int .i64 s, .int .i64 h] 49)).cell? ⟨w.heap.size, 0, none⟩ = some (.int .i64 cc) := by go_simp
  have fd1 : (w.alloc (.cells #[.int .i64 cc, .int .i64 s, .int .i64 h] 49)).cell? ⟨w.heap.size, 1, none⟩ = some (.int .i64 s) := by go_simp
  have fd2 : (w.alloc (.cells #[.int .i64 cc, .int .i64 s, .int .i64 h] 49)).cell? ⟨w.heap.size, 2, none⟩ = some (.int .i64 h) := by go_simp
  have hr1_xs := hr_xs.below hB0
  generalize w.alloc (.cells #[.int .i64 cc, .int .i64 s, .int .i64 h] 49) = w1 at hB0 fd0 fd1 fd2 hr1_xs ⊢
  have FD := Lib.hid (And.intro fd0 (And.intro fd1 fd2))
  clear fd0 fd1 fd2
  have hz01 := hB0.size
  have R_xs := Lib.hid hr1_xs
  clear hr1_xs hr_xs
  have hL0 : (deVal xs cc s h r v).length ≤ 1048576 := deVal_len hn_xs (by omega)
  have gd1 : w1.cell? ⟨w.heap.size, 0, none⟩ = some (.int .i64 cc) ∧ w1.cell? ⟨w.heap.size, 1, none⟩ = some (.int .i64 s) ∧ w1.cell? ⟨w.heap.size, 2, none⟩ = some (.int .i64 h) := ⟨later (Below.refl _ _) FD.out.1, later (Below.refl _ _) FD.out.2.1, later (Below.refl _ _) FD.out.2.2⟩
  go_wp2
  go_region_held3 (fun w9 => w9.cell? ⟨w.heap.size, 0, none⟩ = some (.int .i64 cc) ∧ w9.cell? ⟨w.heap.size, 1, none⟩ = some (.int .i64 s) ∧ w9.cell? ⟨w.heap.size, 2, none⟩ = some (.int .i64 h)) (first | with_reducible assumption | go_keep) (first | (go_at_call 15; refine (toInt64S_any A n c xs _ hn_xs (by omega) (R_xs.out.below (Below.drew (Below.refl _ _)))).mono ?_; rintro en w2 ⟨rfl, hz, hc, hb⟩; have hb : Below w1.heap.size w1 w2 := Below.trans (Below.drew (Below.refl _ _)) hb; have hO := OwnR.of_cells hn_xs (Nat.lt_of_succ_le hz) hc; have hz2 := hb.size; have HB2 := Lib.hid hb; have K2_s0 := Lib.hid (OwnI.of hO); clear hb hO; clear hz hc; have gd2 : w2.cell? ⟨w.heap.size, 0, none⟩ = some (.int .i64 cc) ∧ w2.cell? ⟨w.heap.size, 1, none⟩ = some (.int .i64 s) ∧ w2.cell? ⟨w.heap.size, 2, none⟩ = some (.int .i64 h) := ⟨later HB2.out FD.out.1, later HB2.out FD.out.2.1, later HB2.out FD.out.2.2⟩) | (go_at_call 39; refine (toDir_any cc s h _).mono ?_; rintro en w3 ⟨rfl, hb⟩; have hz3 := hb.size; have K3_s0 := Lib.hid (K2_s0.out.below hb); have HB3 := Lib.hid (bseq HB2.out hb); clear hb K2_s0 HB2; have gd3 : w3.cell? ⟨w.heap.size, 0, none⟩ = some (.int .i64 cc) ∧ w3.cell? ⟨w.heap.size, 1, none⟩ = some (.int .i64 s) ∧ w3.cell? ⟨w.heap.size, 2, none⟩ = some (.int .i64 h) := ⟨later HB3.out FD.out.1, later HB3.out FD.out.2.1, later HB3.out FD.out.2.2⟩) | (go_at_call 40; refine (sDe_any _ n n xs cc s h r v _ hn_xs (Nat.le_refl _) (by omega) K3_s0.out.rd).mono ?_; rintro en w4 ⟨A0_4, c0_4, rfl, ho0, hb⟩; have hz4 := hb.size; have K4_s0 := Lib.hid (K3_s0.out.below hb); have HB4 := Lib.hid (bseq HB3.out hb); have K4_W0 := Lib.hid (OwnI.of ho0); clear hb K3_s0 HB3 ho0; have gd4 : w4.cell? ⟨w.heap.size, 0, none⟩ = some (.int .i64 cc) ∧ w4.cell? ⟨w.heap.size, 1, none⟩ = some (.int .i64 s) ∧ w4.cell? ⟨w.heap.size, 2, none⟩ = some (.int .i64 h) := ⟨later HB4.out FD.out.1, later HB4.out FD.out.2.1, later HB4.out FD.out.2.2⟩))
  clear K4_s0
  go_wp2_with fail
  refine (toInt64S_any A n c xs _ hn_xs (by omega) (R_xs.out.below HB4.out)).mono ?_
  rintro en w5 ⟨rfl, hz, hc, hb⟩
  have hO := OwnR.of_cells hn_xs (Nat.lt_of_succ_le hz) hc
  have hz5 := hb.size
  have K5_W0 := Lib.hid (K4_W0.out.below hb)
  have HB5 := Lib.hid (bseq HB4.out hb)
  have K5_x0 := Lib.hid (OwnI.of hO)
  clear hb K4_W0 HB4 hO
  clear hz hc
  have g0 := later HB5.out FD.out.1
  have g1 := later HB5.out FD.out.2.1
  have g2 := later HB5.out FD.out.2.2
  go_wp2_with fail
  refine (toDir_any cc s h _).mono ?_
  rintro en w6 ⟨rfl, hb⟩
  have hz6 := hb.size
  have K6_W0 := Lib.hid (K5_W0.out.below hb)
  have K6_x0 := Lib.hid (K5_x0.out.below hb)
  have HB6 := Lib.hid (bseq HB5.out hb)
  clear hb K5_W0 K5_x0 HB5
  clear g0 g1 g2
  go_wp2_with fail
  refine (iDe_any _ n n xs cc s h r v _ hn_xs (Nat.le_refl _) (by omega) K6_x0.out.rd).mono ?_
  rintro en w7 ⟨A0_7, c0_7, rfl, ho0, hb⟩
  have hz7 := hb.size
  have K7_W0 := Lib.hid (K6_W0.out.below hb)
  have K7_x0 := Lib.hid (K6_x0.out.below hb)
  have HB7 := Lib.hid (bseq HB6.out hb)
  have K7_G0 := Lib.hid (OwnI.of ho0)
  clear hb K6_W0 K6_x0 HB6 ho0
  go_wp2_with fail
  refine (eqQ_any _ _ (deVal xs cc s h r v).length c0_7 c0_4 (deVal xs cc s h r v) _ rfl (by omega) K7_G0.out.rd K7_W0.out.rd).mono ?_
  rintro en w8 ⟨rfl, mq, hq⟩
  have hb := bquiet hq
  clear hq
  have hz8 := hb.size
  have K8_W0 := Lib.hid (K7_W0.out.below hb)
  have K8_x0 := Lib.hid (K7_x0.out.below hb)
  have K8_G0 := Lib.hid (K7_G0.out.below hb)
  have HB8 := Lib.hid (bseq HB7.out hb)
  clear hb K7_W0 K7_x0 K7_G0 HB7
  go_wp2_with fail
  refine (toInt64S_any A n c xs _ hn_xs (by omega) (R_xs.out.below HB8.out)).mono ?_
  rintro en w9 ⟨rfl, hz, hc, hb⟩
  have hO := OwnR.of_cells hn_xs (Nat.lt_of_succ_le hz) hc
  have hz9 := hb.size
  have K9_W0 := Lib.hid (K8_W0.out.below hb)
  have K9_x0 := Lib.hid (K8_x0.out.below hb)
  have K9_G0 := Lib.hid (K8_G0.out.below hb)
  have HB9 := Lib.hid (bseq HB8.out hb)
  have K9_tmp := Lib.hid (OwnI.of hO)
  clear hb K8_W0 K8_x0 K8_G0 HB8 hO
  clear hz hc
  go_wp2_with fail
  refine (eqQ_any _ _ n n n xs _ hn_xs (by omega) K9_x0.out.rd K9_tmp.out.rd).mono ?_
  rintro en w10 ⟨rfl, mq, hq⟩
  have hb := bquiet hq
  clear hq
  have hz10 := hb.size
  have K10_W0 := Lib.hid (K9_W0.out.below hb)
  have K10_x0 := Lib.hid (K9_x0.out.below hb)
  have K10_G0 := Lib.hid (K9_G0.out.below hb)
  have K10_tmp := Lib.hid (K9_tmp.out.below hb)
  have HB10 := Lib.hid (bseq HB9.out hb)
  clear hb K9_W0 K9_x0 K9_G0 K9_tmp HB9
  clear K10_tmp
  go_wp2_with fail
  refine (markI_any (some ⟨w4.heap.size, 0, none⟩) n n _ _ xs 1 _ K10_x0.out (by omega) (by omega) (by omega)).mono ?_
  rintro en w11 ⟨rfl, hO, hk⟩
  have hz11 := hk.size
  have K11_W0 := Lib.hid (K10_W0.out.kept hk (by first | (left; omega) | (right; omega)))
  have K11_G0 := Lib.hid (K10_G0.out.kept hk (by first | (left; omega) | (right; omega)))
  have HB11 : Hid (Below w1.heap.size w1 w11) := HB10.out.trans (hk.to_below (by omega) (by omega))
  have K11_x0 := Lib.hid hO
  clear hO hk K10_x0 K10_W0 K10_G0 HB10
  clear K11_x0
  go_wp2_with fail
  refine (eqQ_any _ _ (deVal xs cc s h r v).length c0_7 c0_4 (deVal xs cc s h r v) _ rfl (by omega) K11_G0.out.rd K11_W0.out.rd).mono ?_
  rintro en w12 ⟨rfl, mq, hq⟩
  have hb := bquiet hq
  clear hq
  have hz12 := hb.size
  have K12_W0 := Lib.hid (K11_W0.out.below hb)
  have K12_G0 := Lib.hid (K11_G0.out.below hb)
  have HB12 := Lib.hid (bseq HB11.out hb)
  clear hb K11_W0 K11_G0 HB11
  go_wp2_with fail
  refine (markI_any A0_7 (deVal xs cc s h r v).length c0_7 _ _ (deVal xs cc s h r v) 1 _ K12_G0.out (by omega) (by omega) (by omega)).mono ?_
  rintro en w13 ⟨rfl, hO, hk⟩
  have hz13 := hk.size
  have K13_W0 := Lib.hid (K12_W0.out.kept hk (by first | (left; omega) | (right; omega)))
  have HB13 : Hid (Below w1.heap.size w1 w13) := HB12.out.trans (hk.to_below (by omega) (by omega))
  have K13_G0 := Lib.hid hO
  clear hO hk K12_G0 K12_W0 HB12
  go_wp2_with fail
  refine (heldI_any A0_7 (deVal xs cc s h r v).length c0_7 _ _ 1 _ K13_G0.out (by omega) (by omega) (by omega)).mono ?_
  rintro en wz ⟨rfl, rfl⟩
  have gd13 : w13.cell? ⟨w.heap.size, 0, none⟩ = some (.int .i64 cc) ∧ w13.cell? ⟨w.heap.size, 1, none⟩ = some (.int .i64 s) ∧ w13.cell? ⟨w.heap.size, 2, none⟩ = some (.int .i64 h) := ⟨later HB13.out FD.out.1, later HB13.out FD.out.2.1, later HB13.out FD.out.2.2⟩
  go_wp2
  go_region_held3 (fun w9 => w9.cell? ⟨w.heap.size, 0, none⟩ = some (.int .i64 cc) ∧ w9.cell? ⟨w.heap.size, 1, none⟩ = some (.int .i64 s) ∧ w9.cell? ⟨w.heap.size, 2, none⟩ = some (.int .i64 h)) (first | with_reducible assumption | go_keep) (first | (go_at_call 15; refine (toInt64S_any A n c xs _ hn_xs (by omega) (R_xs.out.below (Below.drew HB13.out))).mono ?_; rintro en w14 ⟨rfl, hz, hc, hb⟩; have hb : Below w13.heap.size w13 w14 := Below.trans (Below.drew (Below.refl _ _)) hb; have hO := OwnR.of_cells hn_xs (Nat.lt_of_succ_le hz) hc; have hz14 := hb.size; have K14_W0 := Lib.hid (K13_W0.out.below hb); have K14_G0 := Lib.hid (K13_G0.out.below hb); have HB14 := Lib.hid (bseq HB13.out hb); have K14_h0 := Lib.hid (OwnI.of hO); clear hb K13_W0 K13_G0 HB13 hO; clear hz hc; have gd14 : w14.cell? ⟨w.heap.size, 0, none⟩ = some (.int .i64 cc) ∧ w14.cell? ⟨w.heap.size, 1, none⟩ = some (.int .i64 s) ∧ w14.cell? ⟨w.heap.size, 2, none⟩ = some (.int .i64 h) := ⟨later HB14.out FD.out.1, later HB14.out FD.out.2.1, later HB14.out FD.out.2.2⟩) | (go_at_call 39; refine (toDir_any cc s h _).mono ?_; rintro en w15 ⟨rfl, hb⟩; have hz15 := hb.size; have K15_W0 := Lib.hid (K14_W0.out.below hb); have K15_G0 := Lib.hid (K14_G0.out.below hb); have K15_h0 := Lib.hid (K14_h0.out.below hb); have HB15 := Lib.hid (bseq HB14.out hb); clear hb K14_W0 K14_G0 K14_h0 HB14; have gd15 : w15.cell? ⟨w.heap.size, 0, none⟩ = some (.int .i64 cc) ∧ w15.cell? ⟨w.heap.size, 1, none⟩ = some (.int .i64 s) ∧ w15.cell? ⟨w.heap.size, 2, none⟩ = some (.int .i64 h) := ⟨later HB15.out FD.out.1, later HB15.out FD.out.2.1, later HB15.out FD.out.2.2⟩) | (go_at_call 41; refine (iDe_any _ n n xs cc s h r v _ hn_xs (Nat.le_refl _) (by omega) K15_h0.out.rd).mono ?_; rintro en w16 ⟨A0_16, c0_16, rfl, ho0, hb⟩; have hz16 := hb.size; have K16_W0 := Lib.hid (K15_W0.out.below hb); have K16_G0 := Lib.hid (K15_G0.out.below hb); have K16_h0 := Lib.hid (K15_h0.out.below hb); have HB16 := Lib.hid (bseq HB15.out hb); have K16_H0 := Lib.hid (OwnI.of ho0); clear hb K15_W0 K15_G0 K15_h0 HB15 ho0; have gd16 : w16.cell? ⟨w.heap.size, 0, none⟩ = some (.int .i64 cc) ∧ w16.cell? ⟨w.heap.size, 1, none⟩ = some (.int .i64 s) ∧ w16.cell? ⟨w.heap.size, 2, none⟩ = some (.int .i64 h) := ⟨later HB16.out FD.out.1, later HB16.out FD.out.2.1, later HB16.out FD.out.2.2⟩))
  clear K16_h0
  go_wp2_with fail
  refine (eqQ_any _ _ (deVal xs cc s h r v).length c0_16 c0_4 (deVal xs cc s h r v) _ rfl (by omega) K16_H0.out.rd K16_W0.out.rd).mono ?_
  rintro en w17 ⟨rfl, mq, hq⟩
  have hb := bquiet hq
  clear hq
  have hz17 := hb.size
  have K17_W0 := Lib.hid (K16_W0.out.below hb)
  have K17_G0 := Lib.hid (K16_G0.out.below hb)
  have K17_H0 := Lib.hid (K16_H0.out.below hb)
  have HB17 := Lib.hid (bseq HB16.out hb)
  clear hb K16_W0 K16_G0 K16_H0 HB16
  go_wp2_with fail
  refine (heldI_any A0_7 (deVal xs cc s h r v).length c0_7 _ _ 1 _ K17_G0.out (by omega) (by omega) (by omega)).mono ?_
  rintro en wz ⟨rfl, rfl⟩
  go_wp2
  go_ret
  exact ⟨rfl, bseq hB0 HB17.out⟩
end Go.Proofs.Ytfmhbphbgdijpaa
