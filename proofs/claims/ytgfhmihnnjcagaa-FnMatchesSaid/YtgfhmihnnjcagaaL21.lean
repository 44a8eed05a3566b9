/- the law, walked: FnMatches -/
import Derived.Test.YtgfhmihnnjcagaaDiceO
import Derived.Test.YtgfhmihnnjcagaaPlainMt
import Derived.Test.YtgfhmihnnjcagaaLike
import Derived.Test.YtgfhmihnnjcagaaW22
import Derived.Deep.QuietTactic
import Derived.BigQuiet
set_option linter.unusedVariables false
set_option linter.unusedSimpArgs false
namespace Go.Proofs.Ytgfhmihnnjcagaa
open Go.RowKit

set_option maxRecDepth 100000 in
set_option maxHeartbeats 32000000 in
theorem lawMt_any (A : Option Addr) (n c : Nat) (w : World) (hr : RdB w A n) :
    Calls Try.prog 16 #[.slice A n c] w fun en w9 => en = .returned (.bool true) ∧ Below w.heap.size w w9 := by
  by_cases hm : 4096 < (n : Int)
  · have hbig : decide (4096 < (n : Int)) = true := decide_eq_true hm
    go_enter Try.func16, Try.ntmps16
    go_wp2_with fail
    refine (big_any _ _ _ _).mono ?_
    rintro en wz ⟨rfl, rfl⟩
    rw [hbig]
    go_wp2
    go_ret
    exact ⟨rfl, Below.refl _ _⟩
  · have hbig : decide (4096 < (n : Int)) = false := decide_eq_false hm
    have hm2 : n ≤ 4096 := by omega
    go_enter Try.func16, Try.ntmps16
    go_wp2_with fail
    refine (big_any _ _ _ _).mono ?_
    rintro en wz ⟨rfl, rfl⟩
    rw [hbig]
    clear hbig hm
    go_wp2_with fail
    refine (dMs_any A n c _ hr hm2).mono ?_
    rintro en w1 ⟨Ax, n1, cx, Bp, p, cp, xs, ps, rfl, hn, hnc, hn40, hrx, _, hp, hpc, hp8, hrp, _, hb1⟩
    have K1_x := Lib.hid hrx
    clear hrx
    have K1_p := Lib.hid hrp
    clear hrp
    go_wp2_with fail
    refine (iMs_any Ax n1 cx xs Bp p cp ps _ hn hnc (by omega) K1_x.out hp hpc (by omega) K1_p.out).mono ?_
    rintro en w2 ⟨A_l, c_l, rfl, hR, hb⟩
    have K2_x := Lib.hid (K1_x.out.below hb)
    have K2_p := Lib.hid (K1_p.out.below hb)
    have HB2 := Lib.hid (bseq hb1 hb)
    clear K1_x K1_p hb1
    have K2_l := Lib.hid hR
    clear hR
    clear hb
    go_wp2_with fail
    refine (sMs_any Ax n1 cx xs Bp p cp ps _ hn hnc (by omega) K2_x.out hp hpc (by omega) K2_p.out).mono ?_
    rintro en w3 ⟨A_m, c_m, rfl, hR, hb⟩
    have K3_x := Lib.hid (K2_x.out.below hb)
    have K3_p := Lib.hid (K2_p.out.below hb)
    have K3_l := Lib.hid (K2_l.out.below hb)
    have HB3 := Lib.hid (bseq HB2.out hb)
    clear K2_x K2_p K2_l HB2
    have K3_m := Lib.hid hR
    clear hR
    clear hb
    have hpl : (msVal xs ps).length ≤ 1048576 := msVal_len hn (by omega)
    obtain ⟨N, hN⟩ : ∃ N, N = (msVal xs ps).length := ⟨_, rfl⟩
    have HLL : Hid ((msVal xs ps).length = N) := hN.symm
    rw [← hN] at hpl ⊢
    clear hN
    obtain ⟨C0, hC0⟩ : ∃ C0, C0 = mCode xs ps := ⟨_, rfl⟩
    rw [← hC0]
    have HC0 := Lib.hid hC0
    clear hC0
    go_wp2_with fail
    refine (likeT_any A_l A_m _ _ c_l c_m (msVal xs ps) (msVal xs ps) _ HLL.out HLL.out (by omega) (by omega) K3_l.out.rd K3_m.out.rd rfl).mono ?_
    rintro en w4 ⟨rfl, hb⟩
    have K4_x := Lib.hid (K3_x.out.below hb)
    have K4_p := Lib.hid (K3_p.out.below hb)
    have K4_l := Lib.hid (K3_l.out.below hb)
    have K4_m := Lib.hid (K3_m.out.below hb)
    have HB4 := Lib.hid (bseq HB3.out hb)
    clear K3_x K3_p K3_l K3_m HB3
    clear hb
    by_cases h0 : C0 = 0
    rotate_left
    · have hz : (C0 != 0) = true := by simpa using h0
      clear h0
      go_wp2
      go_ret
      exact ⟨rfl, HB4.out⟩
    · have hz : (C0 != 0) = false := by simpa using h0
      have HMZ : Hid (mCode xs ps = 0) := by show _ = _; rw [← HC0.out]; exact h0
      clear h0
      have HXB : Hid (0 < n1 → ∃ b off, Ax = some ⟨b, off, none⟩ ∧ b < w4.heap.size ∧ ∀ k, k < n1 → w4.cell? ⟨b, off + k, none⟩ = some (.int .i64 (xs.getD k 0))) := by
        show _ → _
        intro h9
        rcases K4_x.out with h1 | ⟨b, off, h1, hc⟩
        · exfalso; rw [h1] at hn; simp at hn; omega
        · rw [hn] at hc
          exact ⟨b, off, h1, World.block_lt_of_cell? w4 _ (hc 0 h9), hc⟩
      go_wp2_with fail
      refine (roll_any A n c 1001 _ (RdB.below hr HB4.out) hm2).mono ?_
      rintro en w5 ⟨s, rfl, hs1, hD, hb5⟩
      have hz45 := hb5.size
      have ls5 : s < w5.heap.size := hD.lt
      have HS5 := Lib.hid hD
      have HD0 := Lib.hid (Duo.new w5)
      have hb45 : Hid (w4.heap.size ≤ s) := hs1
      have HXC : Hid (0 < n1 → ∃ b off, Ax = some ⟨b, off, none⟩ ∧ b ≠ s ∧ ∀ k, k < n1 → w5.cell? ⟨b, off + k, none⟩ = some (.int .i64 (xs.getD k 0))) := by
        show _ → _
        intro h9
        obtain ⟨b, off, h1, h2, hc⟩ := HXB.out h9
        refine ⟨b, off, h1, by omega, fun k hk => ?_⟩
        rcases (K4_x.out.below hb5) with h3 | ⟨b2, off2, h3, hc3⟩
        · exfalso; rw [h3] at hn; simp at hn; omega
        · rw [h1] at h3; cases h3; exact hc3 k (by rw [hn]; exact hk)
      clear hD HXB
      have HSG : Hid (Sig xs) := (isSig_iff.1 (mCode_zero HMZ.out).1).2
      go_wp2
      go_loopw [10, 11, 12] (fun v u i wr => ∃ (k : Nat) (os bs : List Int), k ≤ n1 ∧ i = .int .i64 (k : Int) ∧ Hid (os.length = k) ∧ Hid (bs.length = k) ∧ Hid (∀ x ∈ os, -4 ≤ x ∧ x ≤ 4) ∧ Hid (∀ i, i < k → bs.getD i 0 = xs.getD i 0 + os.getD i 0) ∧ Hid (Duo wr w5.heap.size v os u bs) ∧ w5.heap.size ≤ wr.heap.size ∧ Hid (Dice wr s) ∧ Hid (Gs s w5 wr)) (fun _ _ i _ => n1 - (intOf i).toNat)
      case atStart => exact ⟨0, [], [], Nat.zero_le _, rfl, rfl, rfl, (fun x hx => by cases hx), (fun i hi => absurd hi (Nat.not_lt_zero _)), HD0, by simp only [World.size_alloc]; omega, (HS5.out.alloc _).alloc _, ((Gs.refl s w5).alloc _).alloc _⟩
      case round =>
        obtain ⟨k, os, bs, hk, rfl, HO, HBL, HR4, HAD, HV, hz, HR, HH⟩ := hrel
        by_cases hkn : k < n1
        · obtain ⟨b, off, hA, hbs, hc⟩ := HXC.out (by omega)
          subst hA
          have hx5 := hc k hkn
          have xb := HSG.out.at k
          obtain ⟨a, ha⟩ : ∃ a, a = xs.getD k 0 := ⟨_, rfl⟩
          have HA := Lib.hid ha
          rw [← ha] at hx5 xb
          clear ha hc
          have hki : (k : Int) < n1 := by omega
          have ho40 : os.length ≤ 40 := by rw [HO.out]; omega
          have hb40 : bs.length ≤ 40 := by rw [HBL.out]; omega
          go_wp2_with fail
          refine (dbelow_any s 9 _ (by repeat (first | with_reducible exact HR.out | with_reducible refine Dice.alloc ?_ _)) (by decide)).mono ?_
          rintro en w11 ⟨z, rfl, z0, zb, hs, hg⟩
          have HS11 := Lib.hid hs
          have HG11 : Hid (Gs s w5 w11) := Gs.trans (by repeat (first | with_reducible exact HH.out | with_reducible refine Gs.alloc ?_ _)) hg
          have HD11 : Hid (Duo w11 w5.heap.size (u10) (os) (u11) (bs)) := Duo.gs (by repeat (first | with_reducible exact HV.out | with_reducible refine Duo.alloc ?_ _)) hg ls5
          have hz11 : w5.heap.size ≤ w11.heap.size := HG11.out.size
          have lq11 : s < w11.heap.size := HS11.out.lt
          clear hs hg
          go_wp2_with (first | (at_builtin; refine app_lies rfl (.tmp 70) (.tmp 72) rfl w5.heap.size (u10) (os) rfl (OwnV.alloc HD11.out.1 _) ((z - 4)) _ rfl (cell_new1 _ _) (by (try simp only [List.length_append, List.length_singleton]); omega) (by simp only [World.size_alloc]; omega) ?_; intro g12 cap12 w12 hown hg hat; have hload : w12.cell? ⟨b, off + k, none⟩ = some (.int .i64 a) := (Gs.then HG11.out (Duo.bel HD11.out _ hz11 hg)).cell2 hx5 hbs; have hb := Duo.bel HD11.out _ hz11 hg; have HD12 : Hid (Duo w12 w5.heap.size (.slice (some ⟨g12, 0, none⟩) ((os).length + 1) cap12) (os ++ [(z - 4)]) (u11) (bs)) := Duo.app HD11.out _ hown hg hat; have HS12 := Lib.hid (Dice.low HS11.out hb ls5); have HG12 : Hid (Gs s w5 w12) := Gs.then HG11.out hb; have hz12 : w5.heap.size ≤ w12.heap.size := HG12.out.size; have lq12 : s < w12.heap.size := HS12.out.lt; clear hown hg hat hb) | (at_builtin; refine app_lies rfl (.tmp 74) (.tmp 81) rfl w5.heap.size (u11) (bs) rfl (OwnV.alloc (Duo.swap HD12.out).1 _) ((a + (z - 4))) _ rfl (cell_new1 _ _) (by (try simp only [List.length_append, List.length_singleton]); omega) (by simp only [World.size_alloc]; omega) ?_; intro g13 cap13 w13 hown hg hat; have hb := Duo.bel (Duo.swap HD12.out) _ hz12 hg; have HD13 : Hid (Duo w13 w5.heap.size (.slice (some ⟨g12, 0, none⟩) ((os).length + 1) cap12) (os ++ [(z - 4)]) (.slice (some ⟨g13, 0, none⟩) ((bs).length + 1) cap13) (bs ++ [(a + (z - 4))])) := Duo.swap (Duo.app (Duo.swap HD12.out) _ hown hg hat); have HS13 := Lib.hid (Dice.low HS12.out hb ls5); have HG13 : Hid (Gs s w5 w13) := Gs.then HG12.out hb; have hz13 : w5.heap.size ≤ w13.heap.size := HG13.out.size; have lq13 : s < w13.heap.size := HS13.out.lt; clear hown hg hat hb))
          have HO1 : Hid ((os ++ [z - 4]).length = k + 1) := by show _ = _; rw [List.length_append, HO.out]; rfl
          have HO2 : Hid ((bs ++ [a + (z - 4)]).length = k + 1) := by show _ = _; rw [List.length_append, HBL.out]; rfl
          have HO3 : Hid (∀ x ∈ os ++ [z - 4], -4 ≤ x ∧ x ≤ 4) := by
            show ∀ x, _
            intro x hx
            rcases List.mem_append.1 hx with h | h
            · exact HR4.out x h
            · obtain rfl : x = _ := List.mem_singleton.1 h
              omega
          have HO4 : Hid (∀ i, i < k + 1 → (bs ++ [a + (z - 4)]).getD i 0 = xs.getD i 0 + (os ++ [z - 4]).getD i 0) := by
            show ∀ i, _
            intro i hi
            have e1 := HO.out
            have e2 := HBL.out
            rcases Nat.lt_or_ge i k with h | h
            · rw [List.getD_eq_getElem?_getD, List.getD_eq_getElem?_getD (l := os ++ _), List.getElem?_append_left (by omega), List.getElem?_append_left (by omega), ← List.getD_eq_getElem?_getD, ← List.getD_eq_getElem?_getD]; exact HAD.out i h
            · obtain rfl : i = k := by omega
              rw [← HA.out]
              simp [List.getD_eq_getElem?_getD, List.getElem?_append_right, e1, e2]
          go_roundw
          case rel => exact ⟨k + 1, os ++ [z - 4], bs ++ [a + (z - 4)], by omega, by go_num, HO1, HO2, HO3, HO4, HD13, hz13, HS13, HG13⟩
          case measure => simp [intOf]; omega
        · obtain rfl : n1 = k := by omega
          have hbw : Below w4.heap.size w4 wr := hb5.trans (Gs.to_below HH.out hs1 hz45)
          obtain ⟨w20, hw20⟩ : ∃ w20 : World, w20 = wr := ⟨_, rfl⟩
          subst hw20
          have HB20 : Hid (Below w.heap.size w w20) := bseq HB4.out hbw
          have K20_x := Lib.hid (K4_x.out.below hbw)
          have K20_p := Lib.hid (K4_p.out.below hbw)
          have K20_l := Lib.hid (K4_l.out.below hbw)
          obtain ⟨Ao, po, co, e1, ho, hoc, hro, _⟩ := HV.out.1.sl
          obtain ⟨Ab, pb, cb, e2, hbl, hbc, hrb, _⟩ := HV.out.2.1.sl
          subst e1
          subst e2
          obtain rfl : n1 = po := by rw [← ho]; exact HO.out.symm
          obtain rfl : n1 = pb := by rw [← hbl]; exact HBL.out.symm
          have K20_o := Lib.hid hro
          have K20_b := Lib.hid hrb
          clear hro hrb HV HR HH HD0 HS5 hb5
          obtain ⟨s1, s2, s3, s4⟩ := mCode_zero HMZ.out
          rw [hn, hp] at s4
          rw [hp] at s3
          have hso : isSig os = true := small_sig (by omega) HR4.out
          have hco : mCode os ps = 0 := mCode_ok hso s2 (by omega) (by omega)
          have hcs : mCode ps ps = 0 := mCode_ok s2 s2 (by omega) (by omega)
          have HXV : Hid (msVal xs ps = mts xs ps) := by show _ = _; simp [msVal, HMZ.out]
          have HOV : Hid (msVal os ps = mts os ps) := by show _ = _; simp [msVal, hco]
          have HSV : Hid (msVal ps ps = [corr ps 0]) := by show _ = _; rw [← mts_self]; simp [msVal, hcs]
          have hNN : N = n1 - p + 1 := by rw [← HLL.out, HXV.out, mts_len, hn, hp]
          have hlo : (msVal os ps).length = N := by rw [HOV.out, mts_len, ho, hp, hNN]
          have HLO := Lib.hid hlo
          have HEV : Hid (enVal ps = corr ps 0 ∧ crCode ps = 0) := by show _ ∧ _; simp [enVal, crCode, s2]
          have HSB := Lib.hid (mCode_sum (bs := bs) s2 (by omega) (by omega))
          have HNN : Hid ((n1 : Int) - p + 1 = N) := by show _ = _; omega
          have hN1 : 1 ≤ N := by omega
          have HS1 := Lib.hid s1
          have HS2 := Lib.hid s2
          have HSO := Lib.hid hso
          obtain ⟨C2, hC2⟩ : ∃ C2, C2 = mCode bs ps := ⟨_, rfl⟩
          have HC2 := Lib.hid hC2
          obtain ⟨NB, hNB⟩ : ∃ NB, NB = (msVal bs ps).length := ⟨_, rfl⟩
          have HNB := Lib.hid hNB
          have hpb2 : NB ≤ 1048576 := by rw [hNB]; exact msVal_len hbl (by omega)
          have HCO := Lib.hid hco
          have HCS := Lib.hid hcs
          have HNE := Lib.hid hNN
          clear hC2 hNB hlo hNN s1 s2 hso hco hcs
          go_wp2_with fail
          refine (iMs_any Ao n1 co os Bp p cp ps _ ho hoc (by omega) K20_o.out hp hpc (by omega) K20_p.out).mono ?_
          rintro en w21 ⟨A_y, c_y, rfl, hR, hb⟩
          have K21_x := Lib.hid (K20_x.out.below hb)
          have K21_p := Lib.hid (K20_p.out.below hb)
          have K21_l := Lib.hid (K20_l.out.below hb)
          have K21_o := Lib.hid (K20_o.out.below hb)
          have K21_b := Lib.hid (K20_b.out.below hb)
          have HB21 := Lib.hid (bseq HB20.out hb)
          clear K20_x K20_p K20_l K20_o K20_b HB20
          have K21_y := Lib.hid hR
          clear hR
          clear hb
          rw [HLO.out, HCO.out]
          go_wp2_with fail
          refine (sMs_any Ao n1 co os Bp p cp ps _ ho hoc (by omega) K21_o.out hp hpc (by omega) K21_p.out).mono ?_
          rintro en w22 ⟨A_Y, c_Y, rfl, hR, hb⟩
          have K22_x := Lib.hid (K21_x.out.below hb)
          have K22_p := Lib.hid (K21_p.out.below hb)
          have K22_l := Lib.hid (K21_l.out.below hb)
          have K22_o := Lib.hid (K21_o.out.below hb)
          have K22_b := Lib.hid (K21_b.out.below hb)
          have K22_y := Lib.hid (K21_y.out.below hb)
          have HB22 := Lib.hid (bseq HB21.out hb)
          clear K21_x K21_p K21_l K21_o K21_b K21_y HB21
          have K22_Y := Lib.hid hR
          clear hR
          clear hb
          rw [HLO.out, HCO.out]
          go_wp2_with fail
          refine (likeT_any A_y A_Y _ _ c_y c_Y (msVal os ps) (msVal os ps) _ HLO.out HLO.out (by omega) (by omega) K22_y.out.rd K22_Y.out.rd rfl).mono ?_
          rintro en w23 ⟨rfl, hb⟩
          have K23_x := Lib.hid (K22_x.out.below hb)
          have K23_p := Lib.hid (K22_p.out.below hb)
          have K23_l := Lib.hid (K22_l.out.below hb)
          have K23_o := Lib.hid (K22_o.out.below hb)
          have K23_b := Lib.hid (K22_b.out.below hb)
          have K23_y := Lib.hid (K22_y.out.below hb)
          have K23_Y := Lib.hid (K22_Y.out.below hb)
          have HB23 := Lib.hid (bseq HB22.out hb)
          clear K22_x K22_p K22_l K22_o K22_b K22_y K22_Y HB22
          clear hb
          go_wp2_with fail
          refine (iMs_any Ab n1 cb bs Bp p cp ps _ hbl hbc (by omega) K23_b.out hp hpc (by omega) K23_p.out).mono ?_
          rintro en w24 ⟨A_z, c_z, rfl, hR, hb⟩
          have K24_x := Lib.hid (K23_x.out.below hb)
          have K24_p := Lib.hid (K23_p.out.below hb)
          have K24_l := Lib.hid (K23_l.out.below hb)
          have K24_o := Lib.hid (K23_o.out.below hb)
          have K24_b := Lib.hid (K23_b.out.below hb)
          have K24_y := Lib.hid (K23_y.out.below hb)
          have K24_Y := Lib.hid (K23_Y.out.below hb)
          have HB24 := Lib.hid (bseq HB23.out hb)
          clear K23_x K23_p K23_l K23_o K23_b K23_y K23_Y HB23
          have K24_z := Lib.hid hR
          clear hR
          clear hb
          rw [← HNB.out, ← HC2.out]
          go_wp2_with fail
          refine (sMs_any Ab n1 cb bs Bp p cp ps _ hbl hbc (by omega) K24_b.out hp hpc (by omega) K24_p.out).mono ?_
          rintro en w25 ⟨A_Z, c_Z, rfl, hR, hb⟩
          have K25_x := Lib.hid (K24_x.out.below hb)
          have K25_p := Lib.hid (K24_p.out.below hb)
          have K25_l := Lib.hid (K24_l.out.below hb)
          have K25_o := Lib.hid (K24_o.out.below hb)
          have K25_b := Lib.hid (K24_b.out.below hb)
          have K25_y := Lib.hid (K24_y.out.below hb)
          have K25_Y := Lib.hid (K24_Y.out.below hb)
          have K25_z := Lib.hid (K24_z.out.below hb)
          have HB25 := Lib.hid (bseq HB24.out hb)
          clear K24_x K24_p K24_l K24_o K24_b K24_y K24_Y K24_z HB24
          have K25_Z := Lib.hid hR
          clear hR
          clear hb
          rw [← HNB.out, ← HC2.out]
          go_wp2_with fail
          refine (likeT_any A_z A_Z _ _ c_z c_Z (msVal bs ps) (msVal bs ps) _ HNB.out.symm HNB.out.symm (by omega) (by omega) K25_z.out.rd K25_Z.out.rd rfl).mono ?_
          rintro en w26 ⟨rfl, hb⟩
          have K26_x := Lib.hid (K25_x.out.below hb)
          have K26_p := Lib.hid (K25_p.out.below hb)
          have K26_l := Lib.hid (K25_l.out.below hb)
          have K26_o := Lib.hid (K25_o.out.below hb)
          have K26_b := Lib.hid (K25_b.out.below hb)
          have K26_y := Lib.hid (K25_y.out.below hb)
          have K26_Y := Lib.hid (K25_Y.out.below hb)
          have K26_z := Lib.hid (K25_z.out.below hb)
          have K26_Z := Lib.hid (K25_Z.out.below hb)
          have HB26 := Lib.hid (bseq HB25.out hb)
          clear K25_x K25_p K25_l K25_o K25_b K25_y K25_Y K25_z K25_Z HB25
          clear hb
          go_wp2_with fail
          refine (iMs_any Bp p cp ps Bp p cp ps _ hp hpc (by omega) K26_p.out hp hpc (by omega) K26_p.out).mono ?_
          rintro en w27 ⟨A_s, c_s, rfl, hR, hb⟩
          have K27_x := Lib.hid (K26_x.out.below hb)
          have K27_p := Lib.hid (K26_p.out.below hb)
          have K27_l := Lib.hid (K26_l.out.below hb)
          have K27_o := Lib.hid (K26_o.out.below hb)
          have K27_b := Lib.hid (K26_b.out.below hb)
          have K27_y := Lib.hid (K26_y.out.below hb)
          have K27_Y := Lib.hid (K26_Y.out.below hb)
          have K27_z := Lib.hid (K26_z.out.below hb)
          have K27_Z := Lib.hid (K26_Z.out.below hb)
          have HB27 := Lib.hid (bseq HB26.out hb)
          clear K26_x K26_p K26_l K26_o K26_b K26_y K26_Y K26_z K26_Z HB26
          have K27_s := Lib.hid hR
          clear hR
          clear hb
          rw [HSV.out, HCS.out]
          go_wp2_with fail
          refine (iEn_any Bp p cp ps _ hp hpc (by omega) K27_p.out).mono ?_
          rintro en w28 ⟨rfl, mq, hq⟩
          have hb := bquiet hq
          clear hq
          have K28_x := Lib.hid (K27_x.out.below hb)
          have K28_p := Lib.hid (K27_p.out.below hb)
          have K28_l := Lib.hid (K27_l.out.below hb)
          have K28_o := Lib.hid (K27_o.out.below hb)
          have K28_b := Lib.hid (K27_b.out.below hb)
          have K28_y := Lib.hid (K27_y.out.below hb)
          have K28_Y := Lib.hid (K27_Y.out.below hb)
          have K28_z := Lib.hid (K27_z.out.below hb)
          have K28_Z := Lib.hid (K27_Z.out.below hb)
          have K28_s := Lib.hid (K27_s.out.below hb)
          have HB28 := Lib.hid (bseq HB27.out hb)
          clear K27_x K27_p K27_l K27_o K27_b K27_y K27_Y K27_z K27_Z K27_s HB27
          clear hb
          rw [HEV.out.1, HEV.out.2]
          have HQS : Hid (Rd w28 A_s [corr ps 0]) := by show Rd _ _ _; rw [← HSV.out]; exact K28_s.out.rd
          obtain ⟨E, hE⟩ : ∃ E, E = corr ps 0 := ⟨_, rfl⟩
          rw [← hE] at HQS ⊢
          have HEE := Lib.hid hE
          clear hE
          go_wp2_with fail
          refine (likeT_any A_s _ _ _ c_s _ [E] [E] _ rfl rfl (by simp) (by simp) (HQS.out.below (Below.alloc (Below.refl _ _) (Nat.le_refl _) _)) (Rd.new w28 _ [E]) rfl).mono ?_
          rintro en w29 ⟨rfl, hb⟩
          have hb : Below w28.heap.size w28 w29 := Below.trans (Below.alloc (Below.refl _ _) (Nat.le_refl _) _) (hb.mono (by simp))
          have K29_x := Lib.hid (K28_x.out.below hb)
          have K29_p := Lib.hid (K28_p.out.below hb)
          have K29_l := Lib.hid (K28_l.out.below hb)
          have K29_o := Lib.hid (K28_o.out.below hb)
          have K29_b := Lib.hid (K28_b.out.below hb)
          have K29_y := Lib.hid (K28_y.out.below hb)
          have K29_Y := Lib.hid (K28_Y.out.below hb)
          have K29_z := Lib.hid (K28_z.out.below hb)
          have K29_Z := Lib.hid (K28_Z.out.below hb)
          have K29_s := Lib.hid (K28_s.out.below hb)
          have HB29 := Lib.hid (bseq HB28.out hb)
          clear K28_x K28_p K28_l K28_o K28_b K28_y K28_Y K28_z K28_Z K28_s HB28
          clear hb
          have hnn : ((N : Int) != N) = false := by simp
          have HN3 : Hid (¬ ((N : Int) != (n1 : Int) - p + 1) = true) := by show ¬ _; rw [HNN.out]; simp
          have hn3 : ((N : Int) != (n1 : Int) - p + 1) = false := by rw [HNN.out]; simp
          rcases HSB.out with ⟨hb0, hb1⟩ | ⟨hb0, hb1⟩
          rotate_left
          · have hc2 : C2 = 1 := by rw [HC2.out]; exact hb0
            subst hc2
            go_wp2
            refine wp_loop_rounds 1 ?_
            rw [rounds_succ]
            go_wp2_with (first | (go_at_call 58; refine (iSig_any Ab n1 cb bs _ hbl hbc (by omega) K29_b.out).mono ?_; rintro en wz ⟨rfl, rfl⟩))
            go_ret
            exact ⟨rfl, HB29.out⟩
          · have hc2 : C2 = 0 := by rw [HC2.out]; exact hb0
            subst hc2
            have HBV : Hid (msVal bs ps = mts bs ps) := by show _ = _; simp [msVal, hb0]
            have hnb : NB = N := by rw [HNB.out, HBV.out, mts_len, hbl, hp, HNE.out]
            rcases K29_l.out.rd with h0 | ⟨x1, x2, hX, hxc⟩
            · exfalso; have := HLL.out; rw [h0] at this; simp at this; omega
            rcases K29_y.out.rd with h0 | ⟨y1, y2, hY, hyc⟩
            · exfalso; have := HLO.out; rw [h0] at this; simp at this; omega
            rcases K29_z.out.rd with h0 | ⟨z1, z2, hZ, hzc⟩
            · exfalso; have := HNB.out; rw [h0] at this; simp at this; omega
            subst hX
            subst hY
            subst hZ
            subst hnb
            have HXC' : Hid (∀ i, i < NB → w29.cell? ⟨x1, x2 + i, none⟩ = some (.int .i64 ((mts xs ps).getD i 0))) := fun i hi => by rw [hxc i (by rw [HLL.out]; exact hi), HXV.out]
            have HYC : Hid (∀ i, i < NB → w29.cell? ⟨y1, y2 + i, none⟩ = some (.int .i64 ((mts os ps).getD i 0))) := fun i hi => by rw [hyc i (by rw [HLO.out]; exact hi), HOV.out]
            have HZC : Hid (∀ i, i < NB → w29.cell? ⟨z1, z2 + i, none⟩ = some (.int .i64 ((mts xs ps).getD i 0 + (mts os ps).getD i 0))) := fun i hi => by
              rw [hzc i (by rw [← HNB.out]; exact hi), HBV.out, mts_add (xs := xs) (os := os) (by rw [ho, hn]) (by rw [hbl, hn]) (by rw [hp, hn]; omega) (by rw [hn]; exact HAD.out) (by rw [← HXV.out, HLL.out]; exact hi)]
            have HVX : Hid (Val (mts xs ps)) := mts_val (isSig_iff.1 HS1.out).2 (isSig_iff.1 HS2.out).2 (by omega)
            have HVO : Hid (Val (mts os ps)) := mts_val (isSig_iff.1 HSO.out).2 (isSig_iff.1 HS2.out).2 (by omega)
            have HBEL : Hid (Below w.heap.size w w29) := HB29.out
            have HRB : Hid (Rd w29 Ab bs) := K29_b.out
            clear hxc hyc hzc
            go_wp2
            go_loopw [26] (fun i wv => ∃ j q : Nat, j ≤ NB ∧ i = .int .i64 (j : Int) ∧ wv = w29.drewN q) (fun i _ => NB - (intOf i).toNat)
            case atStart => exact ⟨0, 0, Nat.zero_le _, rfl, rfl⟩
            case round =>
              obtain ⟨j, q, hj, rfl, hwv⟩ := hrel
              obtain ⟨wv, hwv2⟩ : ∃ wv : World, wv = wr := ⟨_, rfl⟩
              subst hwv2
              have HW := Lib.hid hwv
              clear hwv
              by_cases hjn : j < NB
              · have cx9 : wv.cell? ⟨x1, x2 + j, none⟩ = some (.int .i64 ((mts xs ps).getD j 0)) := by rw [HW.out]; exact HXC'.out j hjn
                have cy9 : wv.cell? ⟨y1, y2 + j, none⟩ = some (.int .i64 ((mts os ps).getD j 0)) := by rw [HW.out]; exact HYC.out j hjn
                have cz9 : wv.cell? ⟨z1, z2 + j, none⟩ = some (.int .i64 ((mts xs ps).getD j 0 + (mts os ps).getD j 0)) := by rw [HW.out]; exact HZC.out j hjn
                have vx := HVX.out.at j
                have vy := HVO.out.at j
                obtain ⟨u, hu⟩ : ∃ u, u = (mts xs ps).getD j 0 := ⟨_, rfl⟩
                obtain ⟨v, hv⟩ : ∃ v, v = (mts os ps).getD j 0 := ⟨_, rfl⟩
                rw [← hu] at cx9 cz9 vx
                rw [← hv] at cy9 cz9 vy
                clear hu hv
                have e9 : IntKind.i64.wrap (u + v) = u + v := IntWalk.i64_in _ (by omega)
                have e8 : (u + v != u + v) = false := by simp
                have hji : (j : Int) < NB := by omega
                go_wp2
                go_quiet (fail)
                go_wp2
                go_roundw
                case rel => exact ⟨j + 1, _, by omega, by go_num, by rw [HW.out]; exact World.drewN_drewN _ _ _⟩
                case measure => simp [intOf]; omega
              · obtain rfl : NB = j := by omega
                have hB9 : Below w.heap.size w wv := by rw [HW.out]; exact below_drewN HBEL.out _
                go_wp2
                go_ret
                exact ⟨rfl, hB9⟩
end Go.Proofs.Ytgfhmihnnjcagaa
