/- the law, walked: FnPulses -/
import Derived.Test.YtgfhmihnnjcagaaDrW3
import Derived.Test.YtgfhmihnnjcagaaLike
import Derived.Test.YtgfhmihnnjcagaaPlainPu
import Derived.Test.YtgfhmihnnjcagaaW22
import Derived.Deep.QuietTactic
import Derived.BigQuiet
set_option linter.unusedVariables false
set_option linter.unusedSimpArgs false
namespace Go.Proofs.Ytgfhmihnnjcagaa
open Go.RowKit

set_option maxRecDepth 100000 in
set_option maxHeartbeats 32000000 in
theorem lawPu_any (A : Option Addr) (n c : Nat) (w : World) (hr : RdB w A n) :
    Calls Try.prog 15 #[.slice A n c] w fun en w9 => en = .returned (.bool true) ∧ Below w.heap.size w w9 := by
  by_cases hm : 4096 < (n : Int)
  · have hbig : decide (4096 < (n : Int)) = true := decide_eq_true hm
    go_enter Try.func15, Try.ntmps15
    go_wp2_with fail
    refine (big_any _ _ _ _).mono ?_
    rintro en wz ⟨rfl, rfl⟩
    rw [hbig]
    go_wp2
    go_ret
    exact ⟨rfl, Below.refl _ _⟩
  · have hbig : decide (4096 < (n : Int)) = false := decide_eq_false hm
    have hm2 : n ≤ 4096 := by omega
    go_enter Try.func15, Try.ntmps15
    go_wp2_with fail
    refine (big_any _ _ _ _).mono ?_
    rintro en wz ⟨rfl, rfl⟩
    rw [hbig]
    clear hbig hm
    go_wp2_with fail
    refine (dPob_any A n c _ hr hm2).mono ?_
    rintro en w1 ⟨v, xs, x, y, rfl, hown, hlen, hb1⟩
    obtain ⟨Ax, p, cx, rfl, hp, hpc, hrx, hA⟩ := hown.sl
    clear hown
    have K1_x := Lib.hid hrx
    clear hrx
    go_wp2_with fail
    refine (iPob_any Ax p cx xs x y _ hp hpc (by omega) K1_x.out).mono ?_
    rintro en w2 ⟨A_l, c_l, rfl, hR, hb⟩
    have K2_x := Lib.hid (K1_x.out.below hb)
    have HB2 := Lib.hid (bseq hb1 hb)
    clear K1_x hb1
    have K2_l := Lib.hid hR
    clear hR
    clear hb
    go_wp2_with fail
    refine (sPob_any Ax p cx xs x y _ hp hpc (by omega) K2_x.out).mono ?_
    rintro en w3 ⟨A_m, c_m, rfl, hR, hb⟩
    have K3_x := Lib.hid (K2_x.out.below hb)
    have K3_l := Lib.hid (K2_l.out.below hb)
    have HB3 := Lib.hid (bseq HB2.out hb)
    clear K2_x K2_l HB2
    have K3_m := Lib.hid hR
    clear hR
    clear hb
    by_cases hz : plCode xs x y = 0
    · obtain ⟨q1, q2⟩ := plCode_zero hz
      obtain ⟨_, p2, p3, p4, p5, p6⟩ := plOk_parts q1
      obtain ⟨s1, s2, s3, s4, s5⟩ := plVal_good hz
      have HOP := Lib.hid (plVal_opp hz)
      obtain ⟨L, hL⟩ : ∃ L, L = (plVal xs x y).length := ⟨_, rfl⟩
      have hL4 : L ≤ 400 := by omega
      have HLL : Hid ((plVal xs x y).length = L) := hL.symm
      have hcl : L ≤ c_l := by have := K3_l.out.2.1; omega
      have hll : (plVal xs x y).length = L := hL.symm
      have hcr : crCode (plVal xs x y) = 0 := by simp [crCode, s4]
      rw [hp] at q2 s5
      have hen : enVal (plVal xs x y) = (p : Int) * x * y * y := by unfold enVal; rw [if_pos s4, s5]
      have hb3 : 0 ≤ (p : Int) * x := Int.mul_nonneg (by omega) (by omega)
      have m1 := mul_bd (a := (p : Int) * x) (b := y) (A := 400) (B := 1000) (by omega) (by omega)
      have m2 := mul_bd (a := (p : Int) * x * y) (b := y) (A := 400000) (B := 1000) (by omega) (by omega)
      have HBB := Lib.hid p2
      have HSG := Lib.hid s3
      have HP := Lib.hid hp
      have hp100 : p ≤ 100 := by omega
      clear q1 s1 s2 s3 s4 s5 hL p2 hp
      go_wp2_with fail
      refine (likeT_any A_l A_m _ _ c_l c_m (plVal xs x y) (plVal xs x y) _ HLL.out HLL.out (by omega) (by omega) K3_l.out.rd K3_m.out.rd rfl).mono ?_
      rintro en w4 ⟨rfl, hb⟩
      have K4_x := Lib.hid (K3_x.out.below hb)
      have K4_l := Lib.hid (K3_l.out.below hb)
      have K4_m := Lib.hid (K3_m.out.below hb)
      have HB4 := Lib.hid (bseq HB3.out hb)
      clear K3_x K3_l K3_m HB3
      clear hb
      go_wp2_with fail
      refine (iEn_any A_l L c_l (plVal xs x y) _ HLL.out hcl (by omega) K4_l.out.rd).mono ?_
      rintro en w5 ⟨rfl, mq, hq⟩
      have hb := bquiet hq
      clear hq
      have K5_x := Lib.hid (K4_x.out.below hb)
      have K5_l := Lib.hid (K4_l.out.below hb)
      have K5_m := Lib.hid (K4_m.out.below hb)
      have HB5 := Lib.hid (bseq HB4.out hb)
      clear K4_x K4_l K4_m HB4
      clear hb
      go_wp2
      have hzL : w.heap.size ≤ w5.heap.size := HB5.out.size
      go_loopw [12, 13] (fun v i wr => ∃ k : Nat, k ≤ p ∧ i = .int .i64 (k : Int) ∧ Hid (OwnV wr w5.heap.size v ((opp xs).take k)) ∧ Hid (Below w5.heap.size w5 wr)) (fun _ i _ => p - (intOf i).toNat)
      case atStart => exact ⟨0, Nat.zero_le _, rfl, OwnV.empty _ _ (Nat.le_refl _), Below.alloc (Below.refl _ _) (Nat.le_refl _) _⟩
      case round =>
        obtain ⟨k, hk, rfl, HO, HB⟩ := hrel
        by_cases hkp : k < p
        · have hrd := K5_x.out.below HB.out
          rcases hrd with h0 | ⟨b, off, hA2, hc⟩
          · exfalso; have := HP.out; rw [h0] at this; simp at this; omega
          have hx := hc k (by rw [HP.out]; exact hkp)
          subst hA2
          have xb := HBB.out.at k
          have HT : Hid ((opp xs).take (k + 1) = (opp xs).take k ++ [1 - xs.getD k 0]) := by show _ = _; rw [take_snoc (by rw [opp_len, HP.out]; exact hkp), opp_at (by rw [HP.out]; exact hkp)]
          have HLN : Hid (((opp xs).take k).length = k) := by show _ = _; rw [List.length_take, opp_len, HP.out]; omega
          obtain ⟨z, hzz⟩ : ∃ z, z = xs.getD k 0 := ⟨_, rfl⟩
          rw [← hzz] at hx xb HT
          clear hzz hc
          have hki : (k : Int) < p := by omega
          have hzs := HB.out.size
          go_wp2_with (at_builtin; refine app_int rfl _ _ rfl w5.heap.size _ ((opp xs).take k) rfl (OwnV.alloc HO.out _) (1 - z) _ rfl (cell_new1 _ _) (by rw [HLN.out]; omega) (by simp only [World.size_alloc]; omega) ?_; intro g cap w30 hown2 hb2)
          have HO3 : Hid (∀ L, L = ((opp xs).take k).length + 1 → OwnV w30 w5.heap.size (.slice (some ⟨g, 0, none⟩) L cap) ((opp xs).take (k + 1))) := by
            show ∀ L, _
            intro L hL; rw [HT.out, hL]; exact hown2
          have HB3 := Lib.hid ((Below.alloc HB.out hzs _).trans hb2)
          clear hown2 hb2
          go_roundw
          case rel => exact ⟨k + 1, by omega, by go_num, HO3.out _ (by simp), HB3⟩
          case measure => simp [intOf]; omega
        · obtain rfl : k = p := by omega
          have hto : (opp xs).take k = opp xs := List.take_of_length_le (by rw [opp_len, HP.out]; exact Nat.le_refl _)
          rw [hto] at HO
          clear hto
          obtain ⟨A_o, po, c_o, rfl, hpl, hpo, hro, _⟩ := HO.out.sl
          have hpk : po = k := by rw [opp_len, HP.out] at hpl; exact hpl.symm
          subst hpk
          have HOL : Hid ((opp xs).length = po) := hpl
          obtain ⟨w6, hw2⟩ : ∃ w2, w2 = wr := ⟨_, rfl⟩
          rw [← hw2] at hro HB ⊢
          clear hw2 HO hpl
          have K6_x := Lib.hid (K5_x.out.below HB.out)
          have K6_l := Lib.hid (K5_l.out.below HB.out)
          have K6_m := Lib.hid (K5_m.out.below HB.out)
          have K6_o := Lib.hid hro
          have HB6 := Lib.hid (bseq HB5.out HB.out)
          clear hro HB
          obtain ⟨NV, hNV⟩ : ∃ NV, NV = (plVal xs x y).map (fun a => -a) := ⟨_, rfl⟩
          rw [← hNV] at HOP
          have hnl : NV.length = L := by rw [hNV, List.length_map, HLL.out]
          have HNL := Lib.hid hnl
          have HNA : Hid (∀ i, i < L → NV.getD i 0 = -(plVal xs x y).getD i 0) := by show ∀ i, _; intro i hi; rw [hNV, neg_at (by rw [HLL.out]; exact hi)]
          clear hNV
          have h9 := iPob_any A_o po c_o (opp xs) x y w6 HOL.out hpo (by omega) K6_o.out
          go_wp2_with fail
          rw [HOP.out.1, HOP.out.2] at h9
          refine h9.mono ?_
          rintro en w7 ⟨A_u, c_u, rfl, hR, hb⟩
          have K7_x := Lib.hid (K6_x.out.below hb)
          have K7_l := Lib.hid (K6_l.out.below hb)
          have K7_m := Lib.hid (K6_m.out.below hb)
          have K7_o := Lib.hid (K6_o.out.below hb)
          have HB7 := Lib.hid (bseq HB6.out hb)
          clear K6_x K6_l K6_m K6_o HB6
          have K7_u := Lib.hid hR
          clear hR
          clear hb
          clear h9
          have h9 := sPob_any A_o po c_o (opp xs) x y w7 HOL.out hpo (by omega) K7_o.out
          go_wp2_with fail
          rw [HOP.out.1, HOP.out.2] at h9
          refine h9.mono ?_
          rintro en w8 ⟨A_v, c_v, rfl, hR, hb⟩
          have K8_x := Lib.hid (K7_x.out.below hb)
          have K8_l := Lib.hid (K7_l.out.below hb)
          have K8_m := Lib.hid (K7_m.out.below hb)
          have K8_o := Lib.hid (K7_o.out.below hb)
          have K8_u := Lib.hid (K7_u.out.below hb)
          have HB8 := Lib.hid (bseq HB7.out hb)
          clear K7_x K7_l K7_m K7_o K7_u HB7
          have K8_v := Lib.hid hR
          clear hR
          clear hb
          clear h9
          go_wp2_with fail
          refine (likeT_any A_u A_v _ _ c_u c_v NV NV _ HNL.out HNL.out (by omega) (by omega) K8_u.out.rd K8_v.out.rd rfl).mono ?_
          rintro en w9 ⟨rfl, hb⟩
          have K9_x := Lib.hid (K8_x.out.below hb)
          have K9_l := Lib.hid (K8_l.out.below hb)
          have K9_m := Lib.hid (K8_m.out.below hb)
          have K9_o := Lib.hid (K8_o.out.below hb)
          have K9_u := Lib.hid (K8_u.out.below hb)
          have K9_v := Lib.hid (K8_v.out.below hb)
          have HB9 := Lib.hid (bseq HB8.out hb)
          clear K8_x K8_l K8_m K8_o K8_u K8_v HB8
          clear hb
          have hmb : 0 ≤ (po : Int) * x ∧ (po : Int) * x ≤ 400 := by omega
          go_wp2
          go_loopw [18] (fun i wr => ∃ k m : Nat, k ≤ L ∧ i = .int .i64 (k : Int) ∧ wr = w9.drewN m) (fun i _ => L - (intOf i).toNat)
          case atStart => exact ⟨0, 0, Nat.zero_le _, rfl, rfl⟩
          case round =>
            obtain ⟨k, m, hk, rfl, hwr⟩ := hrel
            have hbw : Below w9.heap.size w9 wr := by rw [hwr]; exact below_drewN (Below.refl _ _) m
            have HW := Lib.hid hwr; clear hwr
            by_cases hkl : k < L
            · have hr1 : Rd wr A_l (plVal xs x y) := K9_l.out.rd.below hbw
              have hr2 : Rd wr A_u NV := K9_u.out.rd.below hbw
              rcases hr1 with h0 | ⟨b1, o1, hA1, hc1⟩
              · exfalso; have := HLL.out; rw [h0] at this; simp at this; omega
              rcases hr2 with h0 | ⟨b2, o2, hA2, hc2⟩
              · exfalso; have := HNL.out; rw [h0] at this; simp at this; omega
              subst hA1
              subst hA2
              have h1 := hc1 k (by rw [HLL.out]; exact hkl)
              have h2 := hc2 k (by rw [HNL.out]; exact hkl)
              have hv := HSG.out.at k
              rw [HNA.out k hkl] at h2
              obtain ⟨z, hz9⟩ : ∃ z, z = (plVal xs x y).getD k 0 := ⟨_, rfl⟩
              rw [← hz9] at h1 h2 hv
              clear hz9 hc1 hc2 hbw
              have hki : (k : Int) < L := by omega
              have e1 : IntKind.i64.wrap z = z := IntWalk.i64_in _ (by omega)
              have e2 : IntKind.i64.wrap (-z) = -z := IntWalk.i64_in _ (by omega)
              have e3 : - -z = z := Int.neg_neg z
              go_wp2
              go_quiet (fail)
              go_wp2
              clear e1 e2 e3
              go_roundw
              case rel => exact ⟨k + 1, m + nq, by omega, by go_num, by rw [HW.out]; exact World.drewN_drewN _ _ _⟩
              case measure => simp [intOf]; omega
            · obtain rfl : k = L := by omega
              have HF := Lib.hid (bseq HB9.out hbw)
              clear hbw
              go_wp2
              go_ret
              exact ⟨rfl, HF.out⟩
    · have hzb : (plCode xs x y != 0) = true := by simpa using hz
      have hll : (plVal xs x y).length ≤ 1048576 := plVal_len
      go_wp2_with fail
      refine (likeT_any A_l A_m _ _ c_l c_m (plVal xs x y) (plVal xs x y) _ rfl rfl (by omega) (by omega) K3_l.out.rd K3_m.out.rd rfl).mono ?_
      rintro en w4 ⟨rfl, hb⟩
      have K4_x := Lib.hid (K3_x.out.below hb)
      have K4_l := Lib.hid (K3_l.out.below hb)
      have K4_m := Lib.hid (K3_m.out.below hb)
      have HB4 := Lib.hid (bseq HB3.out hb)
      clear K3_x K3_l K3_m HB3
      clear hb
      go_wp2
      go_ret
      exact ⟨rfl, HB4.out⟩
end Go.Proofs.Ytgfhmihnnjcagaa
