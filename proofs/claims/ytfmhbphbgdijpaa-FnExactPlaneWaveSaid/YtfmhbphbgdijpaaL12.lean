/- the law, walked: PlaneWave -/
import Derived.Test.YtfmhbphbgdijpaaW17
import Derived.Test.YtfmhbphbgdijpaaW5
set_option linter.unusedVariables false
set_option linter.unusedSimpArgs false
namespace Go.Proofs.Ytfmhbphbgdijpaa
open Go.RowKit
set_option maxRecDepth 100000 in
set_option maxHeartbeats 8000000 in
theorem lawPw_any (P : Option Addr) (p pc : Nat) (ps : List Int) (A : Option Addr) (n c : Nat) (xs : List Int) (cc s h : Int) (r : Int) (v : Int) (st : Int) (L : Int) (w : World) (hn_ps : ps.length = p) (hc_ps : p ≤ pc) (hr_ps : Rd w P ps) (hn_xs : xs.length = n) (hc_xs : n ≤ c) (hr_xs : Rd w A xs) :
    Calls Try.prog 10 #[.slice P p pc, .slice A n c, .agg #[.int .i64 cc, .int .i64 s, .int .i64 h], .int .i64 r, .int .i64 v, .int .i64 st, .int .i64 L] w fun en w9 => en = .returned (.bool true) ∧ Below w.heap.size w w9 := by
  by_cases hbig_ps : 1048576 < p
  · go_enter Try.func10, Try.ntmps10
    go_wp2
    go_ret
    exact ⟨rfl, by go_grown⟩
  by_cases hbig_xs : 1048576 < n
  · go_enter Try.func10, Try.ntmps10
    go_wp2
    go_ret
    exact ⟨rfl, by go_grown⟩
  go_enter Try.func10, Try.ntmps10
  go_wp2_with fail
  have hB0 : Below w.heap.size w (w.alloc (.cells #[.int .i64 cc, .int .i64 s, .int .i64 h] 49)) := by go_grown
  have fd0 : (w.alloc (.cells #[.int .i64 cc, .int .i64 s, .int .i64 h] 49)).cell? ⟨w.heap.size, 0, none⟩ = some (.int .i64 cc) := by go_simp
  have fd1 : (w.alloc (.cells #[.int .i64 cc, .int .i64 s, .int .i64 h] 49)).cell? ⟨w.heap.size, 1, none⟩ = some (.int .i64 s) := by go_simp
  have fd2 : (w.alloc (.cells #[.int .i64 cc, .int .i64 s, .int .i64 h] 49)).cell? ⟨w.heap.size, 2, none⟩ = some (.int .i64 h) := by go_simp
  have hr1_ps := hr_ps.below hB0
  have hr1_xs := hr_xs.below hB0
  generalize w.alloc (.cells #[.int .i64 cc, .int .i64 s, .int .i64 h] 49) = w1 at hB0 fd0 fd1 fd2 hr1_ps hr1_xs ⊢
  have FD := Lib.hid (And.intro fd0 (And.intro fd1 fd2))
  clear fd0 fd1 fd2
  have hz01 := hB0.size
  have R_ps := Lib.hid hr1_ps
  clear hr1_ps hr_ps
  have R_xs := Lib.hid hr1_xs
  clear hr1_xs hr_xs
  have hL0 : (pwVal ps xs cc s h r v st L).length ≤ 12 := pwVal_len
  have hT0 : totTo (pwVal ps xs cc s h r v st L) (pwVal ps xs cc s h r v st L).length ≤ 1048576 * 12 := pwVal_tot
  have gd1 : w1.cell? ⟨w.heap.size, 0, none⟩ = some (.int .i64 cc) ∧ w1.cell? ⟨w.heap.size, 1, none⟩ = some (.int .i64 s) ∧ w1.cell? ⟨w.heap.size, 2, none⟩ = some (.int .i64 h) := ⟨later (Below.refl _ _) FD.out.1, later (Below.refl _ _) FD.out.2.1, later (Below.refl _ _) FD.out.2.2⟩
  go_wp2
  go_region_held3 (fun w9 => w9.cell? ⟨w.heap.size, 0, none⟩ = some (.int .i64 cc) ∧ w9.cell? ⟨w.heap.size, 1, none⟩ = some (.int .i64 s) ∧ w9.cell? ⟨w.heap.size, 2, none⟩ = some (.int .i64 h)) (first | with_reducible assumption | go_keep) (first | (go_at_call 15; (with_reducible show Calls _ _ #[.slice P p pc] _ _); refine (toInt64S_any P p pc ps _ hn_ps (by omega) (R_ps.out.below (Below.drew (Below.refl _ _)))).mono ?_; rintro en w2 ⟨rfl, hz, hc, hb⟩; have hb : Below w1.heap.size w1 w2 := Below.trans (Below.drew (Below.refl _ _)) hb; have hO := OwnR.of_cells hn_ps (Nat.lt_of_succ_le hz) hc; have hz2 := hb.size; have HB2 := Lib.hid hb; have K2_s0 := Lib.hid (OwnI.of hO); clear hb hO; clear hz hc; have gd2 : w2.cell? ⟨w.heap.size, 0, none⟩ = some (.int .i64 cc) ∧ w2.cell? ⟨w.heap.size, 1, none⟩ = some (.int .i64 s) ∧ w2.cell? ⟨w.heap.size, 2, none⟩ = some (.int .i64 h) := ⟨later HB2.out FD.out.1, later HB2.out FD.out.2.1, later HB2.out FD.out.2.2⟩) | (go_at_call 15; (with_reducible show Calls _ _ #[.slice A n c] _ _); refine (toInt64S_any A n c xs _ hn_xs (by omega) (R_xs.out.below HB2.out)).mono ?_; rintro en w3 ⟨rfl, hz, hc, hb⟩; have hO := OwnR.of_cells hn_xs (Nat.lt_of_succ_le hz) hc; have hz3 := hb.size; have K3_s0 := Lib.hid (K2_s0.out.below hb); have HB3 := Lib.hid (bseq HB2.out hb); have K3_s1 := Lib.hid (OwnI.of hO); clear hb K2_s0 HB2 hO; clear hz hc; have gd3 : w3.cell? ⟨w.heap.size, 0, none⟩ = some (.int .i64 cc) ∧ w3.cell? ⟨w.heap.size, 1, none⟩ = some (.int .i64 s) ∧ w3.cell? ⟨w.heap.size, 2, none⟩ = some (.int .i64 h) := ⟨later HB3.out FD.out.1, later HB3.out FD.out.2.1, later HB3.out FD.out.2.2⟩) | (go_at_call 39; refine (toDir_any cc s h _).mono ?_; rintro en w4 ⟨rfl, hb⟩; have hz4 := hb.size; have K4_s0 := Lib.hid (K3_s0.out.below hb); have K4_s1 := Lib.hid (K3_s1.out.below hb); have HB4 := Lib.hid (bseq HB3.out hb); clear hb K3_s0 K3_s1 HB3; have gd4 : w4.cell? ⟨w.heap.size, 0, none⟩ = some (.int .i64 cc) ∧ w4.cell? ⟨w.heap.size, 1, none⟩ = some (.int .i64 s) ∧ w4.cell? ⟨w.heap.size, 2, none⟩ = some (.int .i64 h) := ⟨later HB4.out FD.out.1, later HB4.out FD.out.2.1, later HB4.out FD.out.2.2⟩) | (go_at_call 42; refine (sPw_any _ p p ps _ n n xs cc s h r v st L _ hn_ps (Nat.le_refl _) (by omega) K4_s0.out.rd hn_xs (Nat.le_refl _) (by omega) K4_s1.out.rd).mono ?_; rintro en w5 ⟨A0_5, c0_5, rfl, ho0, hb⟩; have hz5 := hb.size; have K5_s0 := Lib.hid (K4_s0.out.below hb); have K5_s1 := Lib.hid (K4_s1.out.below hb); have HB5 := Lib.hid (bseq HB4.out hb); have K5_W0 := Lib.hid (ho0); clear hb K4_s0 K4_s1 HB4 ho0; have gd5 : w5.cell? ⟨w.heap.size, 0, none⟩ = some (.int .i64 cc) ∧ w5.cell? ⟨w.heap.size, 1, none⟩ = some (.int .i64 s) ∧ w5.cell? ⟨w.heap.size, 2, none⟩ = some (.int .i64 h) := ⟨later HB5.out FD.out.1, later HB5.out FD.out.2.1, later HB5.out FD.out.2.2⟩))
  clear K5_s0
  clear K5_s1
  go_wp2_with fail
  refine (toInt64S_any P p pc ps _ hn_ps (by omega) (R_ps.out.below HB5.out)).mono ?_
  rintro en w6 ⟨rfl, hz, hc, hb⟩
  have hO := OwnR.of_cells hn_ps (Nat.lt_of_succ_le hz) hc
  have hz6 := hb.size
  have K6_W0 := Lib.hid (K5_W0.out.below hb)
  have HB6 := Lib.hid (bseq HB5.out hb)
  have K6_x0 := Lib.hid (OwnI.of hO)
  clear hb K5_W0 HB5 hO
  clear hz hc
  go_wp2_with fail
  refine (toInt64S_any A n c xs _ hn_xs (by omega) (R_xs.out.below HB6.out)).mono ?_
  rintro en w7 ⟨rfl, hz, hc, hb⟩
  have hO := OwnR.of_cells hn_xs (Nat.lt_of_succ_le hz) hc
  have hz7 := hb.size
  have K7_W0 := Lib.hid (K6_W0.out.below hb)
  have K7_x0 := Lib.hid (K6_x0.out.below hb)
  have HB7 := Lib.hid (bseq HB6.out hb)
  have K7_x1 := Lib.hid (OwnI.of hO)
  clear hb K6_W0 K6_x0 HB6 hO
  clear hz hc
  have g0 := later HB7.out FD.out.1
  have g1 := later HB7.out FD.out.2.1
  have g2 := later HB7.out FD.out.2.2
  go_wp2_with fail
  refine (toDir_any cc s h _).mono ?_
  rintro en w8 ⟨rfl, hb⟩
  have hz8 := hb.size
  have K8_W0 := Lib.hid (K7_W0.out.below hb)
  have K8_x0 := Lib.hid (K7_x0.out.below hb)
  have K8_x1 := Lib.hid (K7_x1.out.below hb)
  have HB8 := Lib.hid (bseq HB7.out hb)
  clear hb K7_W0 K7_x0 K7_x1 HB7
  clear g0 g1 g2
  go_wp2_with fail
  refine (iPw_any _ p p ps _ n n xs cc s h r v st L _ hn_ps (Nat.le_refl _) (by omega) K8_x0.out.rd hn_xs (Nat.le_refl _) (by omega) K8_x1.out.rd).mono ?_
  rintro en w9 ⟨A0_9, c0_9, rfl, ho0, hb⟩
  have hz9 := hb.size
  have K9_W0 := Lib.hid (K8_W0.out.below hb)
  have K9_x0 := Lib.hid (K8_x0.out.below hb)
  have K9_x1 := Lib.hid (K8_x1.out.below hb)
  have HB9 := Lib.hid (bseq HB8.out hb)
  have K9_G0 := Lib.hid (ho0)
  clear hb K8_W0 K8_x0 K8_x1 HB8 ho0
  go_wp2_with fail
  refine (eqSS_any _ _ (pwVal ps xs cc s h r v st L).length c0_9 c0_5 (pwVal ps xs cc s h r v st L) _ rfl (by omega) K9_G0.out.rdM K9_W0.out.rdM).mono ?_
  rintro en w10 ⟨rfl, mq, hq⟩
  have hb := bquiet hq
  clear hq
  have hz10 := hb.size
  have K10_W0 := Lib.hid (K9_W0.out.below hb)
  have K10_x0 := Lib.hid (K9_x0.out.below hb)
  have K10_x1 := Lib.hid (K9_x1.out.below hb)
  have K10_G0 := Lib.hid (K9_G0.out.below hb)
  have HB10 := Lib.hid (bseq HB9.out hb)
  clear hb K9_W0 K9_x0 K9_x1 K9_G0 HB9
  go_wp2_with fail
  refine (toInt64S_any P p pc ps _ hn_ps (by omega) (R_ps.out.below HB10.out)).mono ?_
  rintro en w11 ⟨rfl, hz, hc, hb⟩
  have hO := OwnR.of_cells hn_ps (Nat.lt_of_succ_le hz) hc
  have hz11 := hb.size
  have K11_W0 := Lib.hid (K10_W0.out.below hb)
  have K11_x0 := Lib.hid (K10_x0.out.below hb)
  have K11_x1 := Lib.hid (K10_x1.out.below hb)
  have K11_G0 := Lib.hid (K10_G0.out.below hb)
  have HB11 := Lib.hid (bseq HB10.out hb)
  have K11_tmp := Lib.hid (OwnI.of hO)
  clear hb K10_W0 K10_x0 K10_x1 K10_G0 HB10 hO
  clear hz hc
  go_wp2_with fail
  refine (eqQ_any _ _ p p p ps _ hn_ps (by omega) K11_x0.out.rd K11_tmp.out.rd).mono ?_
  rintro en w12 ⟨rfl, mq, hq⟩
  have hb := bquiet hq
  clear hq
  have hz12 := hb.size
  have K12_W0 := Lib.hid (K11_W0.out.below hb)
  have K12_x0 := Lib.hid (K11_x0.out.below hb)
  have K12_x1 := Lib.hid (K11_x1.out.below hb)
  have K12_G0 := Lib.hid (K11_G0.out.below hb)
  have K12_tmp := Lib.hid (K11_tmp.out.below hb)
  have HB12 := Lib.hid (bseq HB11.out hb)
  clear hb K11_W0 K11_x0 K11_x1 K11_G0 K11_tmp HB11
  clear K12_tmp
  go_wp2_with fail
  refine (toInt64S_any A n c xs _ hn_xs (by omega) (R_xs.out.below HB12.out)).mono ?_
  rintro en w13 ⟨rfl, hz, hc, hb⟩
  have hO := OwnR.of_cells hn_xs (Nat.lt_of_succ_le hz) hc
  have hz13 := hb.size
  have K13_W0 := Lib.hid (K12_W0.out.below hb)
  have K13_x0 := Lib.hid (K12_x0.out.below hb)
  have K13_x1 := Lib.hid (K12_x1.out.below hb)
  have K13_G0 := Lib.hid (K12_G0.out.below hb)
  have HB13 := Lib.hid (bseq HB12.out hb)
  have K13_tmp := Lib.hid (OwnI.of hO)
  clear hb K12_W0 K12_x0 K12_x1 K12_G0 HB12 hO
  clear hz hc
  go_wp2_with fail
  refine (eqQ_any _ _ n n n xs _ hn_xs (by omega) K13_x1.out.rd K13_tmp.out.rd).mono ?_
  rintro en w14 ⟨rfl, mq, hq⟩
  have hb := bquiet hq
  clear hq
  have hz14 := hb.size
  have K14_W0 := Lib.hid (K13_W0.out.below hb)
  have K14_x0 := Lib.hid (K13_x0.out.below hb)
  have K14_x1 := Lib.hid (K13_x1.out.below hb)
  have K14_G0 := Lib.hid (K13_G0.out.below hb)
  have K14_tmp := Lib.hid (K13_tmp.out.below hb)
  have HB14 := Lib.hid (bseq HB13.out hb)
  clear hb K13_W0 K13_x0 K13_x1 K13_G0 K13_tmp HB13
  clear K14_tmp
  go_wp2_with fail
  refine (markI_any (some ⟨w5.heap.size, 0, none⟩) p p _ _ ps 1 _ K14_x0.out (by omega) (by omega) (by omega)).mono ?_
  rintro en w15 ⟨rfl, hO, hk⟩
  have hz15 := hk.size
  have K15_W0 := Lib.hid (K14_W0.out.kept hk (by first | (left; omega) | (right; omega)))
  have K15_x1 := Lib.hid (K14_x1.out.kept hk (by first | (left; omega) | (right; omega)))
  have K15_G0 := Lib.hid (K14_G0.out.kept hk (by first | (left; omega) | (right; omega)))
  have HB15 : Hid (Below w1.heap.size w1 w15) := HB14.out.trans (hk.to_below (by omega) (by omega))
  have K15_x0 := Lib.hid hO
  clear hO hk K14_x0 K14_W0 K14_x1 K14_G0 HB14
  clear K15_x0
  go_wp2_with fail
  refine (markI_any (some ⟨w6.heap.size, 0, none⟩) n n _ _ xs (1 + (p : Int)) _ K15_x1.out (by omega) (by omega) (by omega)).mono ?_
  rintro en w16 ⟨rfl, hO, hk⟩
  have hz16 := hk.size
  have K16_W0 := Lib.hid (K15_W0.out.kept hk (by first | (left; omega) | (right; omega)))
  have K16_G0 := Lib.hid (K15_G0.out.kept hk (by first | (left; omega) | (right; omega)))
  have HB16 : Hid (Below w1.heap.size w1 w16) := HB15.out.trans (hk.to_below (by omega) (by omega))
  have K16_x1 := Lib.hid hO
  clear hO hk K15_x1 K15_W0 K15_G0 HB15
  clear K16_x1
  go_wp2_with fail
  refine (eqSS_any _ _ (pwVal ps xs cc s h r v st L).length c0_9 c0_5 (pwVal ps xs cc s h r v st L) _ rfl (by omega) K16_G0.out.rdM K16_W0.out.rdM).mono ?_
  rintro en w17 ⟨rfl, mq, hq⟩
  have hb := bquiet hq
  clear hq
  have hz17 := hb.size
  have K17_W0 := Lib.hid (K16_W0.out.below hb)
  have K17_G0 := Lib.hid (K16_G0.out.below hb)
  have HB17 := Lib.hid (bseq HB16.out hb)
  clear hb K16_W0 K16_G0 HB16
  go_wp2_with fail
  refine (markSS_any A0_9 (pwVal ps xs cc s h r v st L).length c0_9 _ _ (pwVal ps xs cc s h r v st L) 1 _ K17_G0.out (by omega) (by omega) (by omega)).mono ?_
  rintro en w18 ⟨rfl, hO, hk⟩
  have hz18 := hk.size
  have K18_W0 := Lib.hid (K17_W0.out.kept hk (by first | (left; omega) | (right; omega)))
  have HB18 : Hid (Below w1.heap.size w1 w18) := HB17.out.trans (hk.to_below (by omega) (by omega))
  have K18_G0 := Lib.hid hO
  clear hO hk K17_G0 K17_W0 HB17
  go_wp2_with fail
  refine (heldSS_any A0_9 (pwVal ps xs cc s h r v st L).length c0_9 _ _ (pwVal ps xs cc s h r v st L) 1 _ rfl K18_G0.out (by omega) (by omega) (by omega)).mono ?_
  rintro en wz ⟨rfl, rfl⟩
  have gd18 : w18.cell? ⟨w.heap.size, 0, none⟩ = some (.int .i64 cc) ∧ w18.cell? ⟨w.heap.size, 1, none⟩ = some (.int .i64 s) ∧ w18.cell? ⟨w.heap.size, 2, none⟩ = some (.int .i64 h) := ⟨later HB18.out FD.out.1, later HB18.out FD.out.2.1, later HB18.out FD.out.2.2⟩
  go_wp2
  go_region_held3 (fun w9 => w9.cell? ⟨w.heap.size, 0, none⟩ = some (.int .i64 cc) ∧ w9.cell? ⟨w.heap.size, 1, none⟩ = some (.int .i64 s) ∧ w9.cell? ⟨w.heap.size, 2, none⟩ = some (.int .i64 h)) (first | with_reducible assumption | go_keep) (first | (go_at_call 15; (with_reducible show Calls _ _ #[.slice P p pc] _ _); refine (toInt64S_any P p pc ps _ hn_ps (by omega) (R_ps.out.below (Below.drew HB18.out))).mono ?_; rintro en w19 ⟨rfl, hz, hc, hb⟩; have hb : Below w18.heap.size w18 w19 := Below.trans (Below.drew (Below.refl _ _)) hb; have hO := OwnR.of_cells hn_ps (Nat.lt_of_succ_le hz) hc; have hz19 := hb.size; have K19_W0 := Lib.hid (K18_W0.out.below hb); have K19_G0 := Lib.hid (K18_G0.out.below hb); have HB19 := Lib.hid (bseq HB18.out hb); have K19_h0 := Lib.hid (OwnI.of hO); clear hb K18_W0 K18_G0 HB18 hO; clear hz hc; have gd19 : w19.cell? ⟨w.heap.size, 0, none⟩ = some (.int .i64 cc) ∧ w19.cell? ⟨w.heap.size, 1, none⟩ = some (.int .i64 s) ∧ w19.cell? ⟨w.heap.size, 2, none⟩ = some (.int .i64 h) := ⟨later HB19.out FD.out.1, later HB19.out FD.out.2.1, later HB19.out FD.out.2.2⟩) | (go_at_call 15; (with_reducible show Calls _ _ #[.slice A n c] _ _); refine (toInt64S_any A n c xs _ hn_xs (by omega) (R_xs.out.below HB19.out)).mono ?_; rintro en w20 ⟨rfl, hz, hc, hb⟩; have hO := OwnR.of_cells hn_xs (Nat.lt_of_succ_le hz) hc; have hz20 := hb.size; have K20_W0 := Lib.hid (K19_W0.out.below hb); have K20_G0 := Lib.hid (K19_G0.out.below hb); have K20_h0 := Lib.hid (K19_h0.out.below hb); have HB20 := Lib.hid (bseq HB19.out hb); have K20_h1 := Lib.hid (OwnI.of hO); clear hb K19_W0 K19_G0 K19_h0 HB19 hO; clear hz hc; have gd20 : w20.cell? ⟨w.heap.size, 0, none⟩ = some (.int .i64 cc) ∧ w20.cell? ⟨w.heap.size, 1, none⟩ = some (.int .i64 s) ∧ w20.cell? ⟨w.heap.size, 2, none⟩ = some (.int .i64 h) := ⟨later HB20.out FD.out.1, later HB20.out FD.out.2.1, later HB20.out FD.out.2.2⟩) | (go_at_call 39; refine (toDir_any cc s h _).mono ?_; rintro en w21 ⟨rfl, hb⟩; have hz21 := hb.size; have K21_W0 := Lib.hid (K20_W0.out.below hb); have K21_G0 := Lib.hid (K20_G0.out.below hb); have K21_h0 := Lib.hid (K20_h0.out.below hb); have K21_h1 := Lib.hid (K20_h1.out.below hb); have HB21 := Lib.hid (bseq HB20.out hb); clear hb K20_W0 K20_G0 K20_h0 K20_h1 HB20; have gd21 : w21.cell? ⟨w.heap.size, 0, none⟩ = some (.int .i64 cc) ∧ w21.cell? ⟨w.heap.size, 1, none⟩ = some (.int .i64 s) ∧ w21.cell? ⟨w.heap.size, 2, none⟩ = some (.int .i64 h) := ⟨later HB21.out FD.out.1, later HB21.out FD.out.2.1, later HB21.out FD.out.2.2⟩) | (go_at_call 43; refine (iPw_any _ p p ps _ n n xs cc s h r v st L _ hn_ps (Nat.le_refl _) (by omega) K21_h0.out.rd hn_xs (Nat.le_refl _) (by omega) K21_h1.out.rd).mono ?_; rintro en w22 ⟨A0_22, c0_22, rfl, ho0, hb⟩; have hz22 := hb.size; have K22_W0 := Lib.hid (K21_W0.out.below hb); have K22_G0 := Lib.hid (K21_G0.out.below hb); have K22_h0 := Lib.hid (K21_h0.out.below hb); have K22_h1 := Lib.hid (K21_h1.out.below hb); have HB22 := Lib.hid (bseq HB21.out hb); have K22_H0 := Lib.hid (ho0); clear hb K21_W0 K21_G0 K21_h0 K21_h1 HB21 ho0; have gd22 : w22.cell? ⟨w.heap.size, 0, none⟩ = some (.int .i64 cc) ∧ w22.cell? ⟨w.heap.size, 1, none⟩ = some (.int .i64 s) ∧ w22.cell? ⟨w.heap.size, 2, none⟩ = some (.int .i64 h) := ⟨later HB22.out FD.out.1, later HB22.out FD.out.2.1, later HB22.out FD.out.2.2⟩))
  clear K22_h0
  clear K22_h1
  go_wp2_with fail
  refine (eqSS_any _ _ (pwVal ps xs cc s h r v st L).length c0_22 c0_5 (pwVal ps xs cc s h r v st L) _ rfl (by omega) K22_H0.out.rdM K22_W0.out.rdM).mono ?_
  rintro en w23 ⟨rfl, mq, hq⟩
  have hb := bquiet hq
  clear hq
  have hz23 := hb.size
  have K23_W0 := Lib.hid (K22_W0.out.below hb)
  have K23_G0 := Lib.hid (K22_G0.out.below hb)
  have K23_H0 := Lib.hid (K22_H0.out.below hb)
  have HB23 := Lib.hid (bseq HB22.out hb)
  clear hb K22_W0 K22_G0 K22_H0 HB22
  go_wp2_with fail
  refine (heldSS_any A0_9 (pwVal ps xs cc s h r v st L).length c0_9 _ _ (pwVal ps xs cc s h r v st L) 1 _ rfl K23_G0.out (by omega) (by omega) (by omega)).mono ?_
  rintro en wz ⟨rfl, rfl⟩
  go_wp2
  go_ret
  exact ⟨rfl, bseq hB0 HB23.out⟩
end Go.Proofs.Ytfmhbphbgdijpaa
