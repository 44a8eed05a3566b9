/- the law, walked: FnPeaks -/
import Derived.Test.YtgfhmihnnjcagaaDrW4
import Derived.Test.YtgfhmihnnjcagaaLike
import Derived.Test.YtgfhmihnnjcagaaPlainPo
import Derived.Test.YtgfhmihnnjcagaaW21
import Derived.Test.YtgfhmihnnjcagaaW22
import Derived.Deep.QuietTactic
import Derived.BigQuiet
set_option linter.unusedVariables false
set_option linter.unusedSimpArgs false
namespace Go.Proofs.Ytgfhmihnnjcagaa
open Go.RowKit

set_option maxHeartbeats 1000000 in
theorem hasT_any (A : Option Addr) (n c : Nat) (xs : List Int) (x : Int) (w : World) (hn : xs.length = n) (hm : n ≤ 1048576) (hr : Rd w A xs) (hx : Hid (x ∈ xs)) :
    Calls Try.prog 36 #[.slice A n c, .int .i64 x] w fun en w9 => en = .returned (.bool true) ∧ w = w9 := by
  rcases hr with rfl | ⟨b, off, rfl, hc⟩
  · exact absurd hx.out (by simp)
  · have HC := Lib.hid hc; clear hc
    have HN := Lib.hid hn; clear hn
    go_enter Try.func36, Try.ntmps36
    go_wp2
    go_loop [5] (fun i => ∃ k : Nat, k ≤ n ∧ i = .int .i64 (k : Int) ∧ Hid (∀ j, j < k → xs.getD j 0 ≠ x)) (fun i => n - (intOf i).toNat)
    case atStart => exact ⟨0, Nat.zero_le _, rfl, fun j hj => absurd hj (Nat.not_lt_zero _)⟩
    case round =>
      obtain ⟨k, hk, rfl, HA⟩ := hrel
      by_cases hlt : k < n
      · have hck := HC.out k (by rw [HN.out]; exact hlt)
        obtain ⟨y, hy⟩ : ∃ y, y = xs.getD k 0 := ⟨_, rfl⟩
        rw [← hy] at hck
        have hki : (k : Int) < n := by omega
        by_cases hyx : y = x
        · subst hyx
          clear hy
          go_wp2
          go_ret
          exact ⟨rfl, rfl⟩
        · have HA2 : Hid (∀ j, j < k + 1 → xs.getD j 0 ≠ x) := by
            show ∀ j, _
            intro j hj
            rcases Nat.lt_or_ge j k with h1 | h1
            · exact HA.out j h1
            · obtain rfl : j = k := by omega
              rw [← hy]; exact hyx
          have hyb : (y == x) = false := by simpa using hyx
          clear hy
          go_wp2
          go_round
          case rel => exact ⟨k + 1, by omega, by go_num, HA2⟩
          case measure => simp [intOf]; omega
      · exfalso
        obtain ⟨j, hj, e⟩ := List.getElem_of_mem hx.out
        have := HA.out j (by have := HN.out; omega)
        apply this
        simp [hj, e]

set_option maxRecDepth 100000 in
set_option maxHeartbeats 32000000 in
theorem lawPk_any (A : Option Addr) (n c : Nat) (w : World) (hr : RdB w A n) :
    Calls Try.prog 6 #[.slice A n c] w fun en w9 => en = .returned (.bool true) ∧ Below w.heap.size w w9 := by
  by_cases hm : 4096 < (n : Int)
  · have hbig : decide (4096 < (n : Int)) = true := decide_eq_true hm
    go_enter Try.func6, Try.ntmps6
    go_wp2_with fail
    refine (big_any _ _ _ _).mono ?_
    rintro en wz ⟨rfl, rfl⟩
    rw [hbig]
    go_wp2
    go_ret
    exact ⟨rfl, Below.refl _ _⟩
  · have hbig : decide (4096 < (n : Int)) = false := decide_eq_false hm
    have hm2 : n ≤ 4096 := by omega
    go_enter Try.func6, Try.ntmps6
    go_wp2_with fail
    refine (big_any _ _ _ _).mono ?_
    rintro en wz ⟨rfl, rfl⟩
    rw [hbig]
    clear hbig hm
    go_wp2_with fail
    refine (dPeak_any A n c _ hr hm2).mono ?_
    rintro en w1 ⟨Ax, p, cx, xs, rfl, hp, hpc, hp5, hrx, hAx, hb1⟩
    have K1_x := Lib.hid hrx
    clear hrx
    go_wp2_with fail
    refine (iPeakOf_any Ax p cx xs _ hp hpc (by omega) K1_x.out).mono ?_
    rintro en w2 ⟨rfl, mq, hq⟩
    have hb := bquiet hq
    clear hq
    have K2_x := Lib.hid (K1_x.out.below hb)
    have HB2 := Lib.hid (bseq hb1 hb)
    clear K1_x hb1
    clear hb
    go_wp2_with fail
    refine (sPeakOf_any Ax p cx xs _ hp hpc (by omega) K2_x.out).mono ?_
    rintro en w3 ⟨rfl, mq, hq⟩
    have hb := bquiet hq
    clear hq
    have K3_x := Lib.hid (K2_x.out.below hb)
    have HB3 := Lib.hid (bseq HB2.out hb)
    clear K2_x HB2
    clear hb
    go_wp2_with fail
    refine (dPo_any A n c _ (RdB.below hr HB3.out) hm2).mono ?_
    rintro en w4 ⟨v, ys, t, g, rfl, hown, hlen, hb⟩
    have K4_x := Lib.hid (K3_x.out.below hb)
    have HB4 := Lib.hid (bseq HB3.out hb)
    clear K3_x HB3
    clear hb
    obtain ⟨By, q, dy, rfl, hq, hqd, hry, hBy⟩ := hown.sl
    have K4_y := Lib.hid hry
    clear hry hown
    go_wp2_with fail
    refine (iPo2_any By q dy ys t g _ hq hqd (by omega) K4_y.out hBy).mono ?_
    rintro en w5 ⟨A_l, c_l, rfl, hR, hb⟩
    have K5_x := Lib.hid (K4_x.out.below hb)
    have K5_y := Lib.hid (K4_y.out.below hb)
    have HB5 := Lib.hid (bseq HB4.out hb)
    clear K4_x K4_y HB4
    have K5_l := Lib.hid hR
    clear hR
    clear hb
    go_wp2_with fail
    refine (sPo_any By q dy ys t g _ hq hqd (by omega) K5_y.out hBy).mono ?_
    rintro en w6 ⟨A_m, c_m, rfl, hR, hb⟩
    have K6_x := Lib.hid (K5_x.out.below hb)
    have K6_y := Lib.hid (K5_y.out.below hb)
    have K6_l := Lib.hid (K5_l.out.below hb)
    have HB6 := Lib.hid (bseq HB5.out hb)
    clear K5_x K5_y K5_l HB5
    have K6_m := Lib.hid hR
    clear hR
    clear hb
    have hpl : (poVal ys t g).length ≤ 1048576 := poVal_len
    obtain ⟨L, hL⟩ : ∃ L, L = (poVal ys t g).length := ⟨_, rfl⟩
    have HLL : Hid ((poVal ys t g).length = L) := hL.symm
    rw [← hL] at hpl ⊢
    clear hL
    obtain ⟨K, hK⟩ : ∃ K, K = pkVal xs := ⟨_, rfl⟩
    obtain ⟨KC, hKC⟩ : ∃ KC, KC = pkCode xs := ⟨_, rfl⟩
    obtain ⟨PC, hPC⟩ : ∃ PC, PC = poCode ys t g := ⟨_, rfl⟩
    rw [← hK, ← hKC, ← hPC]
    have HK := Lib.hid hK; have HKC := Lib.hid hKC; have HPC := Lib.hid hPC
    clear hK hKC hPC
    go_wp2_with fail
    refine (likeT_any A_l A_m _ _ c_l c_m (poVal ys t g) (poVal ys t g) _ HLL.out HLL.out (by omega) (by omega) K6_l.out.rd K6_m.out.rd rfl).mono ?_
    rintro en w7 ⟨rfl, hb⟩
    have K7_x := Lib.hid (K6_x.out.below hb)
    have K7_y := Lib.hid (K6_y.out.below hb)
    have K7_l := Lib.hid (K6_l.out.below hb)
    have K7_m := Lib.hid (K6_m.out.below hb)
    have HB7 := Lib.hid (bseq HB6.out hb)
    clear K6_x K6_y K6_l K6_m HB6
    clear hb
    go_wp2
    go_loopw [15] (fun i wr => ∃ k m : Nat, k ≤ p ∧ i = .int .i64 (k : Int) ∧ wr = w7.drewN m) (fun i _ => p - (intOf i).toNat)
    case atStart => exact ⟨0, 0, Nat.zero_le _, rfl, rfl⟩
    case round =>
      obtain ⟨k, m, hk, rfl, hwr⟩ := hrel
      have hbw : Below w7.heap.size w7 wr := by rw [hwr]; exact below_drewN (Below.refl _ _) m
      have HW := Lib.hid hwr; clear hwr
      by_cases hkc : KC = 0 ∧ k < p
      · obtain ⟨h0, hkp⟩ := hkc
        have hpk := pk_ok (xs := xs) (by rw [← HKC.out]; exact h0)
        rcases K7_x.out.below hbw with h1 | ⟨b, off, hA2, hc⟩
        · exfalso; rw [h1] at hp; simp at hp; omega
        subst hA2
        have hxl := peakIx_lt hpk.2.1
        have h2 := hc k (by omega)
        have h3 := hc (peakIx xs) hxl
        have h4 := peakIx_max (xs := xs) (j := k) (by omega)
        have v1 := (isTrc_iff.1 hpk.1).2.at k
        have v2 := (isTrc_iff.1 hpk.1).2.at (peakIx xs)
        have hKJ := hpk.2.2
        rw [← HK.out] at hKJ
        obtain ⟨j, hj⟩ : ∃ j, j = peakIx xs := ⟨_, rfl⟩
        obtain ⟨a, ha⟩ : ∃ a, a = xs.getD k 0 := ⟨_, rfl⟩
        obtain ⟨b2, hb2⟩ : ∃ b2, b2 = xs.getD (peakIx xs) 0 := ⟨_, rfl⟩
        rw [← ha] at h2 h4 v1
        rw [← hb2] at h3 h4 v2
        rw [← hj] at h3 hxl hKJ
        clear ha hb2 hj hc hpk
        subst hKJ
        have i1 : (k : Int) < p := by omega
        have i2 : (j : Int) < p := by omega
        have e1 : IntKind.i64.wrap (-a) = -a := IntWalk.i64_in _ (by omega)
        have e2 : IntKind.i64.wrap (-b2) = -b2 := IntWalk.i64_in _ (by omega)
        unfold iabs at h4
        have HC4 := Lib.hid h4
        clear h4 v1 v2 hxl
        subst h0
        rcases Int.lt_or_le a (-a) with sa | sa
        · rcases Int.lt_or_le b2 (-b2) with sb | sb
          · have d1 : decide ((-b2) < (-a)) = false := decide_eq_false (by have := HC4.out; omega)
            have d2 : ¬ a < b2 := (by have := HC4.out; omega)
            go_wp2
            go_quiet (fail)
            go_wp2
            clear e1 e2
            go_roundw
            case rel => exact ⟨k + 1, m + nq, by omega, by go_num, by rw [HW.out]; exact World.drewN_drewN _ _ _⟩
            case measure => simp [intOf]; omega
          · have d1 : decide (b2 < (-a)) = false := decide_eq_false (by have := HC4.out; omega)
            have d2 : ¬ b2 < (-a) := (by have := HC4.out; omega)
            go_wp2
            go_quiet (fail)
            go_wp2
            clear e1 e2
            go_roundw
            case rel => exact ⟨k + 1, m + nq, by omega, by go_num, by rw [HW.out]; exact World.drewN_drewN _ _ _⟩
            case measure => simp [intOf]; omega
        · rcases Int.lt_or_le b2 (-b2) with sb | sb
          · have d1 : decide ((-b2) < a) = false := decide_eq_false (by have := HC4.out; omega)
            have d2 : ¬ (-b2) < a := (by have := HC4.out; omega)
            go_wp2
            go_quiet (fail)
            go_wp2
            clear e1 e2
            go_roundw
            case rel => exact ⟨k + 1, m + nq, by omega, by go_num, by rw [HW.out]; exact World.drewN_drewN _ _ _⟩
            case measure => simp [intOf]; omega
          · have d1 : decide (b2 < a) = false := decide_eq_false (by have := HC4.out; omega)
            have d2 : ¬ b2 < a := (by have := HC4.out; omega)
            go_wp2
            go_quiet (fail)
            go_wp2
            clear e1 e2
            go_roundw
            case rel => exact ⟨k + 1, m + nq, by omega, by go_num, by rw [HW.out]; exact World.drewN_drewN _ _ _⟩
            case measure => simp [intOf]; omega
      · have hcond : KC = 0 → ¬ (k : Int) < p := fun h0 h1 => hkc ⟨h0, by omega⟩
        obtain ⟨w8, hw2⟩ : ∃ w2, w2 = wr := ⟨_, rfl⟩
        rw [← hw2] at hbw ⊢
        clear hw2 HW
        have K8_y := Lib.hid (K7_y.out.below hbw)
        have K8_l := Lib.hid (K7_l.out.below hbw)
        have HB8 := Lib.hid (bseq HB7.out hbw)
        clear hbw
        have hgo : (KC == 0) = false ∨ ((KC == 0) = true ∧ ¬ (k : Int) < p) := by
          by_cases h0 : KC = 0
          · exact .inr ⟨by simpa using h0, hcond h0⟩
          · exact .inl (by simpa using h0)
        have HPCC : Hid (PC = poCode ys t g) := HPC
        clear hkc hcond
        by_cases hp0 : PC = 0
        · have pz : (PC != 0) = false := by simpa using hp0
          have hpo : Hid (poCode ys t g = 0) := by show _ = _; rw [← HPCC.out]; exact hp0
          have HTZ : Hid (isTrc ys = true ∧ 1 ≤ t ∧ t ≤ 1000000000000 ∧ 0 ≤ g ∧ g ≤ 400) := by
            show _ ∧ _
            obtain ⟨z1, z2, z3, z4, z5, _⟩ := poCode_zero hpo.out
            exact ⟨z1, z2, z3, z4, z5⟩
          clear hp0 HPC
          rcases hgo with f0 | ⟨f0, hgk⟩
          all_goals
            go_wp2
            clear pz f0
            go_loopw [16] (fun i wr => ∃ k m : Nat, k ≤ L ∧ i = .int .i64 (k : Int) ∧ wr = w8.drewN m) (fun i _ => L - (intOf i).toNat)
            case atStart => exact ⟨0, 0, Nat.zero_le _, rfl, rfl⟩
            case round =>
              obtain ⟨k2, m2, hk2, rfl, hwr⟩ := hrel
              have hbw : Below w8.heap.size w8 wr := by rw [hwr]; exact below_drewN (Below.refl _ _) m2
              have HW := Lib.hid hwr; clear hwr
              by_cases hkl : k2 < L
              · obtain ⟨e, heq, hel, hge⟩ := poVal_at hpo.out (i := k2) (by rw [HLL.out]; exact hkl)
                rcases K8_y.out.below hbw with h1 | ⟨b, off, hA2, hc⟩
                · exfalso; rw [h1] at hel; simp at hel
                rcases (K8_l.out.below hbw).rd with h1 | ⟨b2, off2, hA3, hc2⟩
                · exfalso; have := HLL.out; rw [h1] at this; simp at this; omega
                subst hA2
                subst hA3
                have h2 := hc e hel
                have h3 := hc2 k2 (by rw [HLL.out]; exact hkl)
                rw [heq] at h3
                have v1 := (isTrc_iff.1 HTZ.out.1).2.at e
                obtain ⟨_, _, _, t3, t4⟩ := HTZ.out
                obtain ⟨a, ha⟩ : ∃ a, a = ys.getD e 0 := ⟨_, rfl⟩
                rw [← ha] at h2 hge v1
                have i1 : (k2 : Int) < L := by omega
                have i2 : (e : Int) < q := by omega
                have x1 : IntKind.i64.wrap (-a) = -a := IntWalk.i64_in _ (by omega)
                unfold iabs at hge
                have HC4 := Lib.hid hge
                clear hge v1 ha hc
                rcases Nat.eq_zero_or_pos k2 with h0 | h0
                · subst h0
                  rw [Nat.add_zero] at h3
                  clear hc2 heq hbw t3 t4 hel
                  have i1 : (0 : Int) < L := by omega
                  rcases Int.lt_or_le a (-a) with sa | sa
                  · have d1 : decide ((-a) < t) = false := decide_eq_false (by have := HC4.out; omega)
                    have d2 : ¬ (-a) < t := (by have := HC4.out; omega)
                    go_wp2
                    go_quiet (fail)
                    go_wp2
                    go_roundw
                    case rel => exact ⟨0 + 1, m2 + nq, by omega, by go_num, by rw [HW.out]; exact World.drewN_drewN _ _ _⟩
                    case measure => simp [intOf]; omega
                  · have d1 : decide (a < t) = false := decide_eq_false (by have := HC4.out; omega)
                    have d2 : ¬ a < t := (by have := HC4.out; omega)
                    go_wp2
                    go_quiet (fail)
                    go_wp2
                    go_roundw
                    case rel => exact ⟨0 + 1, m2 + nq, by omega, by go_num, by rw [HW.out]; exact World.drewN_drewN _ _ _⟩
                    case measure => simp [intOf]; omega
                · obtain ⟨k1, hk1⟩ : ∃ k1, k2 = k1 + 1 := ⟨k2 - 1, by omega⟩
                  have hap := poVal_apart hpo.out (i := k1) (by rw [HLL.out]; omega)
                  obtain ⟨e1, heq1, hel1, _⟩ := poVal_at hpo.out (i := k1) (by rw [HLL.out]; omega)
                  have h4 := hc2 k1 (by rw [HLL.out]; omega)
                  rw [← hk1, heq, heq1] at hap
                  rw [heq1] at h4
                  have x2 : IntKind.i64.wrap ((k2 : Int) - 1) = (k1 : Int) := by rw [IntWalk.i64_in _ (by omega)]; omega
                  have x3 : IntKind.i64.wrap ((e : Int) - (e1 : Int)) = (e : Int) - (e1 : Int) := IntWalk.i64_in _ (by omega)
                  have i3 : (k1 : Int) < L := by omega
                  have d3 : decide ((e : Int) - (e1 : Int) ≤ g) = false := decide_eq_false (by omega)
                  have d4 : ¬ (e : Int) - (e1 : Int) ≤ g := by omega
                  have i5 : (0 : Int) < (k2 : Int) := by omega
                  clear hc2 heq heq1 hbw t3 t4 hel hel1 hap hk1
                  rcases Int.lt_or_le a (-a) with sa | sa
                  · have d1 : decide ((-a) < t) = false := decide_eq_false (by have := HC4.out; omega)
                    have d2 : ¬ (-a) < t := (by have := HC4.out; omega)
                    go_wp2
                    go_quiet (fail)
                    go_wp2
                    go_roundw
                    case rel => exact ⟨k2 + 1, m2 + nq, by omega, by go_num, by rw [HW.out]; exact World.drewN_drewN _ _ _⟩
                    case measure => simp [intOf]; omega
                  · have d1 : decide (a < t) = false := decide_eq_false (by have := HC4.out; omega)
                    have d2 : ¬ a < t := (by have := HC4.out; omega)
                    go_wp2
                    go_quiet (fail)
                    go_wp2
                    go_roundw
                    case rel => exact ⟨k2 + 1, m2 + nq, by omega, by go_num, by rw [HW.out]; exact World.drewN_drewN _ _ _⟩
                    case measure => simp [intOf]; omega
              · have hk3 : k2 = L := by omega
                subst hk3
                have K9_y := Lib.hid (K8_y.out.below hbw)
                have K9_l := Lib.hid ((K8_l.out.below hbw).rd)
                have HB9 := Lib.hid (bseq HB8.out hbw)
                obtain ⟨w9, hw9⟩ : ∃ w9, w9 = wr := ⟨_, rfl⟩
                rw [← hw9] at K9_y K9_l HB9 ⊢
                clear hbw HW hw9
                have HQ0 : Hid (q = 0 → pkCode ys = 4) := by
                  show _ → _
                  intro h0; unfold pkCode; rw [if_pos HTZ.out.1, if_pos (by omega)]
                have HQ1 : Hid (0 < q → pkCode ys = 0 ∧ pkVal ys = peakIx ys) := by
                  show _ → _
                  intro h0
                  have e0 : pkCode ys = 0 := by unfold pkCode; rw [if_pos HTZ.out.1, if_neg (by omega)]
                  exact ⟨e0, (pk_ok e0).2.2⟩
                obtain ⟨PV, hPV⟩ : ∃ PV, PV = poVal ys t g := ⟨_, rfl⟩
                have HMEM : Hid (0 < q → t ≤ iabs (ys.getD (peakIx ys) 0) → (peakIx ys : Int) ∈ PV) := by
                  show _ → _ → _
                  intro h0 h1
                  rw [hPV, (poCode_zero hpo.out).2.2.2.2.2]
                  exact peak_in HTZ.out.2.1 (by omega) h1
                rw [← hPV] at K9_l HLL
                clear hPV
                go_wp2_with fail
                refine (iPeakOf_any By q dy ys _ hq hqd (by omega) K9_y.out).mono ?_
                rintro en w10 ⟨rfl, mq, hq10⟩
                have hb := bquiet hq10
                have K10_y := Lib.hid (K9_y.out.below hb)
                have K10_l := Lib.hid (K9_l.out.below hb)
                have HB10 := Lib.hid (bseq HB9.out hb)
                clear hb hq10 K9_y K9_l HB9 K8_y K8_l
                rcases Nat.eq_zero_or_pos q with h0 | h0
                · rw [HQ0.out h0]
                  obtain ⟨V3, hV3⟩ : ∃ V3, V3 = pkVal ys := ⟨_, rfl⟩
                  rw [← hV3]
                  clear hV3 h0
                  go_wp2
                  go_quiet (fail)
                  go_wp2
                  go_ret
                  exact ⟨rfl, bseq HB10.out (below_drewN (Below.refl _ _) _)⟩
                · rw [(HQ1.out h0).1, (HQ1.out h0).2]
                  rcases K10_y.out with h1 | ⟨b, off, hA2, hc⟩
                  · exfalso; rw [h1] at hq; simp at hq; omega
                  subst hA2
                  have hjl := peakIx_lt (xs := ys) (by omega)
                  have h2 := hc (peakIx ys) hjl
                  have v1 := (isTrc_iff.1 HTZ.out.1).2.at (peakIx ys)
                  have hmem := HMEM.out h0
                  obtain ⟨j, hj⟩ : ∃ j, j = peakIx ys := ⟨_, rfl⟩
                  obtain ⟨a, ha⟩ : ∃ a, a = ys.getD (peakIx ys) 0 := ⟨_, rfl⟩
                  rw [← ha] at h2 v1 hmem
                  rw [← hj] at h2 hjl hmem ⊢
                  clear ha hj hc
                  have i1 : (j : Int) < q := by omega
                  have i2 : (0 : Int) ≤ (j : Int) := by omega
                  have x1 : IntKind.i64.wrap (-a) = -a := IntWalk.i64_in _ (by omega)
                  clear hjl
                  unfold iabs at hmem
                  by_cases lt : max a (-a) < t
                  · have d1 : decide (max a (-a) < t) = true := decide_eq_true lt
                    clear hmem v1
                    go_wp2
                    go_quiet (fail)
                    go_wp2
                    go_ret
                    exact ⟨rfl, bseq HB10.out (below_drewN (Below.refl _ _) _)⟩
                  · have d1 : decide (max a (-a) < t) = false := decide_eq_false lt
                    have HM := Lib.hid (hmem (by omega))
                    clear hmem v1
                    go_wp2
                    go_quiet ((go_at_call 36; exact Calls.quiet_of_same ((hasT_any A_l _ c_l PV _ _ HLL.out hpl (K10_l.out.below (below_drewN (Below.refl _ _) _)) HM).mono fun _ _ h => ⟨h.1, h.2.symm⟩)))
                    go_wp2
                    go_ret
                    exact ⟨rfl, bseq HB10.out (below_drewN (Below.refl _ _) _)⟩
        · have pz : (PC != 0) = true := by simpa using hp0
          clear hp0
          rcases hgo with f0 | ⟨f0, hgk⟩
          all_goals
            go_wp2
            go_ret
            exact ⟨rfl, HB8.out⟩
end Go.Proofs.Ytgfhmihnnjcagaa
