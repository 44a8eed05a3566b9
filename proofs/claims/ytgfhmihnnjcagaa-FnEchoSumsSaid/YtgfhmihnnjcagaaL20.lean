/- the law, walked: FnEchoSums -/
import Derived.Test.YtgfhmihnnjcagaaDrW5
import Derived.Test.YtgfhmihnnjcagaaLike
import Derived.Test.YtgfhmihnnjcagaaPlainEs
import Derived.Test.YtgfhmihnnjcagaaW15
import Derived.Deep.QuietTactic
import Derived.BigQuiet
set_option linter.unusedVariables false
set_option linter.unusedSimpArgs false
namespace Go.Proofs.Ytgfhmihnnjcagaa
open Go.RowKit

def BcDraw (w : World) (en : Ending) (w9 : World) : Prop := ∃ x : Int, en = .returned (.int .i64 x) ∧ Below w.heap.size w w9

set_option maxRecDepth 100000 in
set_option maxHeartbeats 8000000 in
theorem dBc_any (A : Option Addr) (n c : Nat) (w : World) (hr : RdB w A n) (hm : n ≤ 4096) : Calls Try.prog 68 #[.slice A n c] w (BcDraw w) := by
  go_enter Try.func68, Try.ntmps68
  go_wp2_with fail
  refine (from_any A n c _ hr hm).mono ?_
  rintro en w1 ⟨s, rfl, hs1, hS1, hb1⟩
  have ls0 := hS1.lt
  have HB1 := Lib.hid hb1
  have hz1 := hb1.size
  clear hr hb1
  go_wp2_with fail
  refine (next_any s _ _ (by repeat (first | with_reducible exact hS1 | with_reducible refine Src.alloc ?_ _))).mono ?_
  rintro en w2 ⟨x, rfl, x0, xb, hs, hg⟩
  have HS2 := Lib.hid hs
  have HG2 : Hid (Gs s w1 w2) := Gs.trans (by repeat (first | with_reducible exact (Gs.refl s w1) | with_reducible refine Gs.alloc ?_ _)) hg
  have hz2 : w1.heap.size ≤ w2.heap.size := HG2.out.size
  have lq2 : s < w2.heap.size := HS2.out.lt
  clear hs hg
  go_wp2
  go_ret
  exact ⟨x, rfl, HB1.out.trans (Gs.to_below (s := s) (by repeat (first | with_reducible exact HG2.out | with_reducible refine Gs.alloc ?_ _)) hs1 hz1)⟩

set_option maxRecDepth 100000 in
set_option maxHeartbeats 32000000 in
theorem lawEs_any (A : Option Addr) (n c : Nat) (w : World) (hr : RdB w A n) :
    Calls Try.prog 19 #[.slice A n c] w fun en w9 => en = .returned (.bool true) ∧ Below w.heap.size w w9 := by
  by_cases hm : 4096 < (n : Int)
  · have hbig : decide (4096 < (n : Int)) = true := decide_eq_true hm
    go_enter Try.func19, Try.ntmps19
    go_wp2_with fail
    refine (big_any _ _ _ _).mono ?_
    rintro en wz ⟨rfl, rfl⟩
    rw [hbig]
    go_wp2
    go_ret
    exact ⟨rfl, Below.refl _ _⟩
  · have hbig : decide (4096 < (n : Int)) = false := decide_eq_false hm
    have hm2 : n ≤ 4096 := by omega
    go_enter Try.func19, Try.ntmps19
    go_wp2_with fail
    refine (big_any _ _ _ _).mono ?_
    rintro en wz ⟨rfl, rfl⟩
    rw [hbig]
    clear hbig hm
    go_wp2_with fail
    refine (dEch_any A n c _ hr hm2).mono ?_
    rintro en w1 ⟨pv, dv, gv, ps, ds, gs, L, e9, ho1, ho2, ho3, l1, l2, l3, hb1⟩
    obtain ⟨Ap, p, cp, e1, hp, hpc, hrp, _⟩ := ho1.sl
    obtain ⟨Ad, d, cd, e2, hd, hdc, hrd, _⟩ := ho2.sl
    obtain ⟨Ag, g, cg, e3, hg, hgc, hrg, _⟩ := ho3.sl
    clear ho1 ho2 ho3
    subst e1
    subst e2
    subst e3
    subst e9
    have K1_p := Lib.hid hrp
    clear hrp
    have K1_d := Lib.hid hrd
    clear hrd
    have K1_g := Lib.hid hrg
    clear hrg
    go_wp2_with fail
    refine (iEch_any Ap p cp ps Ad d cd ds Ag g cg gs L _ hp hpc (by omega) K1_p.out hd hdc (by omega) K1_d.out hg hgc (by omega) K1_g.out).mono ?_
    rintro en w2 ⟨A_l, c_l, rfl, hR, hb⟩
    have K2_p := Lib.hid (K1_p.out.below hb)
    have K2_d := Lib.hid (K1_d.out.below hb)
    have K2_g := Lib.hid (K1_g.out.below hb)
    have HB2 := Lib.hid (bseq hb1 hb)
    clear K1_p K1_d K1_g hb1
    have K2_l := Lib.hid hR
    clear hR
    clear hb
    go_wp2_with fail
    refine (sEch_any Ap p cp ps Ad d cd ds Ag g cg gs L _ hp hpc (by omega) K2_p.out hd hdc (by omega) K2_d.out hg hgc (by omega) K2_g.out).mono ?_
    rintro en w3 ⟨A_m, c_m, rfl, hR, hb⟩
    have K3_p := Lib.hid (K2_p.out.below hb)
    have K3_d := Lib.hid (K2_d.out.below hb)
    have K3_g := Lib.hid (K2_g.out.below hb)
    have K3_l := Lib.hid (K2_l.out.below hb)
    have HB3 := Lib.hid (bseq HB2.out hb)
    clear K2_p K2_d K2_g K2_l HB2
    have K3_m := Lib.hid hR
    clear hR
    clear hb
    go_wp2_with fail
    refine (dBc_any A n c _ (RdB.below hr HB3.out) hm2).mono ?_
    rintro en w4 ⟨x, rfl, hb⟩
    have K4_p := Lib.hid (K3_p.out.below hb)
    have K4_d := Lib.hid (K3_d.out.below hb)
    have K4_g := Lib.hid (K3_g.out.below hb)
    have K4_l := Lib.hid (K3_l.out.below hb)
    have K4_m := Lib.hid (K3_m.out.below hb)
    have HB4 := Lib.hid (bseq HB3.out hb)
    clear K3_p K3_d K3_g K3_l K3_m HB3
    clear hb
    go_wp2_with fail
    refine (iBest_any x _).mono ?_
    rintro en w5 ⟨A_u, c_u, rfl, hR, hb⟩
    have K5_p := Lib.hid (K4_p.out.below hb)
    have K5_d := Lib.hid (K4_d.out.below hb)
    have K5_g := Lib.hid (K4_g.out.below hb)
    have K5_l := Lib.hid (K4_l.out.below hb)
    have K5_m := Lib.hid (K4_m.out.below hb)
    have HB5 := Lib.hid (bseq HB4.out hb)
    clear K4_p K4_d K4_g K4_l K4_m HB4
    have K5_u := Lib.hid hR
    clear hR
    clear hb
    go_wp2_with fail
    refine (sBest_any x _).mono ?_
    rintro en w6 ⟨A_v, c_v, rfl, hR, hb⟩
    have K6_p := Lib.hid (K5_p.out.below hb)
    have K6_d := Lib.hid (K5_d.out.below hb)
    have K6_g := Lib.hid (K5_g.out.below hb)
    have K6_l := Lib.hid (K5_l.out.below hb)
    have K6_m := Lib.hid (K5_m.out.below hb)
    have K6_u := Lib.hid (K5_u.out.below hb)
    have HB6 := Lib.hid (bseq HB5.out hb)
    clear K5_p K5_d K5_g K5_l K5_m K5_u HB5
    have K6_v := Lib.hid hR
    clear hR
    clear hb
    have hpl : (ecVal ps ds gs L).length ≤ 1048576 := ecVal_len
    have hpb : (bcVal x).length ≤ 1048576 := bcVal_len
    obtain ⟨N, hN⟩ : ∃ N, N = (ecVal ps ds gs L).length := ⟨_, rfl⟩
    have HLL : Hid ((ecVal ps ds gs L).length = N) := hN.symm
    rw [← hN] at hpl ⊢
    clear hN
    obtain ⟨M, hM⟩ : ∃ M, M = (bcVal x).length := ⟨_, rfl⟩
    have HMM : Hid ((bcVal x).length = M) := hM.symm
    rw [← hM] at hpb ⊢
    clear hM
    obtain ⟨EC, hEC⟩ : ∃ EC, EC = ecCode ps ds gs L := ⟨_, rfl⟩
    obtain ⟨BC, hBC⟩ : ∃ BC, BC = bcCode x := ⟨_, rfl⟩
    rw [← hEC, ← hBC]
    have HEC := Lib.hid hEC
    clear hEC hBC
    go_wp2_with fail
    refine (likeT_any A_l A_m _ _ c_l c_m (ecVal ps ds gs L) (ecVal ps ds gs L) _ HLL.out HLL.out (by omega) (by omega) K6_l.out.rd K6_m.out.rd rfl).mono ?_
    rintro en w7 ⟨rfl, hb⟩
    have K7_p := Lib.hid (K6_p.out.below hb)
    have K7_d := Lib.hid (K6_d.out.below hb)
    have K7_g := Lib.hid (K6_g.out.below hb)
    have K7_l := Lib.hid (K6_l.out.below hb)
    have K7_m := Lib.hid (K6_m.out.below hb)
    have K7_u := Lib.hid (K6_u.out.below hb)
    have K7_v := Lib.hid (K6_v.out.below hb)
    have HB7 := Lib.hid (bseq HB6.out hb)
    clear K6_p K6_d K6_g K6_l K6_m K6_u K6_v HB6
    clear hb
    go_wp2_with fail
    refine (likeT_any A_u A_v _ _ c_u c_v (bcVal x) (bcVal x) _ HMM.out HMM.out (by omega) (by omega) K7_u.out.rd K7_v.out.rd rfl).mono ?_
    rintro en w8 ⟨rfl, hb⟩
    have K8_p := Lib.hid (K7_p.out.below hb)
    have K8_d := Lib.hid (K7_d.out.below hb)
    have K8_g := Lib.hid (K7_g.out.below hb)
    have K8_l := Lib.hid (K7_l.out.below hb)
    have K8_m := Lib.hid (K7_m.out.below hb)
    have K8_u := Lib.hid (K7_u.out.below hb)
    have K8_v := Lib.hid (K7_v.out.below hb)
    have HB8 := Lib.hid (bseq HB7.out hb)
    clear K7_p K7_d K7_g K7_l K7_m K7_u K7_v HB7
    clear hb
    by_cases h0 : EC = 0
    · have hz : (EC != 0) = false := by simpa using h0
      have hz0 : ecCode ps ds gs L = 0 := by rw [← HEC.out]; exact h0
      obtain ⟨s1, s2, s3, s4, s5, s6⟩ := ec_sum hz0
      have b1 : Hid (Bd 1000 ps) := Bd.of (by omega) (isSig_iff.1 s1).2
      have b2 : Hid (Bd 1000 (ecVal ps ds gs L)) := Bd.of (by omega) (isSig_iff.1 s2).2
      have b3 : Hid (Bd 1000 gs) := Bd.of (by omega) s3
      have q1 := smTo_bd b1.out p
      have q3 := smTo_bd b3.out g
      rw [HLL.out, hp, hg] at s6
      rw [HLL.out] at s5
      have hp4 : p ≤ 500 := by omega
      have hg4 : g ≤ 100 := by omega
      obtain ⟨SP, hSP⟩ : ∃ SP, SP = smTo ps p := ⟨_, rfl⟩
      obtain ⟨SG, hSG⟩ : ∃ SG, SG = smTo gs g := ⟨_, rfl⟩
      rw [← hSP] at q1 s6
      rw [← hSG] at q3 s6
      have hm9 := mul_bd (a := SP) (b := SG) (A := 500000) (B := 100000) (by omega) (by omega)
      have x1 : IntKind.i64.wrap (SP * SG) = SP * SG := IntWalk.i64_in _ (by omega)
      have HSP := Lib.hid hSP
      have HSG := Lib.hid hSG
      have HSX := Lib.hid s6
      clear hSP hSG s6 s1 s2 s3 s4 hm9 q1 q3 hz0 h0 HEC
      go_wp2_with fail
      refine (sumT_any A_l _ c_l (ecVal ps ds gs L) _ HLL.out hpl K8_l.out.rd b2).mono ?_
      rintro en wz ⟨rfl, rfl⟩
      rw [HSX.out]
      go_wp2_with fail
      refine (sumT_any Ap _ cp ps _ hp (by omega) K8_p.out b1).mono ?_
      rintro en wz ⟨rfl, rfl⟩
      rw [← HSP.out]
      go_wp2_with fail
      refine (sumT_any Ag _ cg gs _ hg (by omega) K8_g.out b3).mono ?_
      rintro en wz ⟨rfl, rfl⟩
      rw [← HSG.out]
      go_wp2
      go_ret
      exact ⟨rfl, HB8.out⟩
    · have hz : (EC != 0) = true := by simpa using h0
      clear h0 HEC
      go_wp2
      go_ret
      exact ⟨rfl, HB8.out⟩
end Go.Proofs.Ytgfhmihnnjcagaa
