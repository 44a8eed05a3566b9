/- the law, walked: FnClearEchoes -/
import Derived.Test.YtgfhmihnnjcagaaDiceL
import Derived.Test.YtgfhmihnnjcagaaDrW8
import Derived.Test.YtgfhmihnnjcagaaPlainCl
import Derived.Test.YtgfhmihnnjcagaaLike
import Derived.Test.YtgfhmihnnjcagaaW13
import Derived.Test.YtgfhmihnnjcagaaW10
import Derived.Test.YtgfhmihnnjcagaaW7
set_option linter.unusedVariables false
set_option linter.unusedSimpArgs false
namespace Go.Proofs.Ytgfhmihnnjcagaa
open Go.RowKit

set_option maxRecDepth 100000 in
set_option maxHeartbeats 32000000 in
theorem lawCe_any (A : Option Addr) (n c : Nat) (w : World) (hr : RdB w A n) :
    Calls Try.prog 20 #[.slice A n c] w fun en w9 => en = .returned (.bool true) ∧ Below w.heap.size w w9 := by
  by_cases hm : 4096 < (n : Int)
  · have hbig : decide (4096 < (n : Int)) = true := decide_eq_true hm
    go_enter Try.func20, Try.ntmps20
    go_wp2_with fail
    refine (big_any _ _ _ _).mono ?_
    rintro en wz ⟨rfl, rfl⟩
    rw [hbig]
    go_wp2
    go_ret
    exact ⟨rfl, Below.refl _ _⟩
  · have hbig : decide (4096 < (n : Int)) = false := decide_eq_false hm
    have hm2 : n ≤ 4096 := by omega
    go_enter Try.func20, Try.ntmps20
    go_wp2_with fail
    refine (big_any _ _ _ _).mono ?_
    rintro en wz ⟨rfl, rfl⟩
    rw [hbig]
    clear hbig hm
    go_wp2_with fail
    refine (dCe_any A n c _ hr hm2).mono ?_
    rintro en w1 ⟨pv, ps, g, e, e9, ho1, hl1, hb1⟩
    obtain ⟨Ap, p, cp, e1, hp, hpc, hrp, _⟩ := ho1.sl
    clear ho1
    subst e1
    subst e9
    have K1_p := Lib.hid hrp
    clear hrp
    go_wp2_with fail
    refine (iClear_any Ap p cp ps g e _ hp hpc (by omega) K1_p.out).mono ?_
    rintro en w2 ⟨rfl, mq, hq⟩
    have hb := bquiet hq
    clear hq
    have K2_p := Lib.hid (K1_p.out.below hb)
    have HB2 := Lib.hid (bseq hb1 hb)
    clear K1_p hb1
    clear hb
    go_wp2_with fail
    refine (sClear_any Ap p cp ps g e _ hp hpc (by omega) K2_p.out).mono ?_
    rintro en w3 ⟨rfl, mq, hq⟩
    have hb := bquiet hq
    clear hq
    have K3_p := Lib.hid (K2_p.out.below hb)
    have HB3 := Lib.hid (bseq HB2.out hb)
    clear K2_p HB2
    clear hb
    go_wp2_with fail
    refine (iWeight_any Ap p cp ps  _ hp hpc (by omega) K3_p.out).mono ?_
    rintro en w4 ⟨rfl, mq, hq⟩
    have hb := bquiet hq
    clear hq
    have K4_p := Lib.hid (K3_p.out.below hb)
    have HB4 := Lib.hid (bseq HB3.out hb)
    clear K3_p HB3
    clear hb
    go_wp2_with fail
    refine (sWeight_any Ap p cp ps  _ hp hpc (by omega) K4_p.out).mono ?_
    rintro en w5 ⟨rfl, mq, hq⟩
    have hb := bquiet hq
    clear hq
    have K5_p := Lib.hid (K4_p.out.below hb)
    have HB5 := Lib.hid (bseq HB4.out hb)
    clear K4_p HB4
    clear hb
    go_wp2_with fail
    refine (iLeast_any Ap p cp ps e _ hp hpc (by omega) K5_p.out).mono ?_
    rintro en w6 ⟨rfl, mq, hq⟩
    have hb := bquiet hq
    clear hq
    have K6_p := Lib.hid (K5_p.out.below hb)
    have HB6 := Lib.hid (bseq HB5.out hb)
    clear K5_p HB5
    clear hb
    go_wp2_with fail
    refine (sLeast_any Ap p cp ps e _ hp hpc (by omega) K6_p.out).mono ?_
    rintro en w7 ⟨rfl, mq, hq⟩
    have hb := bquiet hq
    clear hq
    have K7_p := Lib.hid (K6_p.out.below hb)
    have HB7 := Lib.hid (bseq HB6.out hb)
    clear K6_p HB6
    clear hb
    obtain ⟨M0, hM0⟩ : ∃ M0, M0 = clrVal ps g e := ⟨_, rfl⟩
    rw [← hM0]
    have HM0 := Lib.hid hM0
    clear hM0
    obtain ⟨C0, hC0⟩ : ∃ C0, C0 = clrCode ps g e := ⟨_, rfl⟩
    rw [← hC0]
    have HC0 := Lib.hid hC0
    clear hC0
    obtain ⟨W0, hW0⟩ : ∃ W0, W0 = wtVal ps := ⟨_, rfl⟩
    rw [← hW0]
    have HW0 := Lib.hid hW0
    clear hW0
    obtain ⟨W1, hW1⟩ : ∃ W1, W1 = wtCode ps := ⟨_, rfl⟩
    rw [← hW1]
    have HW1 := Lib.hid hW1
    clear hW1
    obtain ⟨G0, hG0⟩ : ∃ G0, G0 = lgVal ps e := ⟨_, rfl⟩
    rw [← hG0]
    have HG0 := Lib.hid hG0
    clear hG0
    obtain ⟨G1, hG1⟩ : ∃ G1, G1 = lgCode ps e := ⟨_, rfl⟩
    rw [← hG1]
    have HG1 := Lib.hid hG1
    clear hG1
    by_cases h0 : C0 = 0
    rotate_left
    · have hz : (C0 != 0) = true := by simpa using h0
      clear h0
      go_wp2
      go_ret
      exact ⟨rfl, HB7.out⟩
    · subst h0
      cases M0 with
      | false =>
        go_wp2
        go_ret
        exact ⟨rfl, HB7.out⟩
      | true =>
        by_cases h100 : p ≤ 100
        rotate_left
        · have hz : (100 : Int) < p := by omega
          go_wp2
          go_ret
          exact ⟨rfl, HB7.out⟩
        · have hz : ¬ (100 : Int) < p := by omega
          have hck : isSig ps = true ∧ (-1000 ≤ g ∧ g ≤ 1000) ∧ (0 ≤ e ∧ e ≤ 1000) ∧ clear ps g e = true := clr_ok HC0.out.symm HM0.out.symm
          obtain ⟨s1, s2, s3, s4⟩ := hck
          have hlg := lg_clear (ps := ps) (g := g) (e := e) s1 s3.1 s3.2 (by unfold iabs; omega) s4
          have hg1 : G1 = 0 := by rw [HG1.out]; exact hlg.1
          subst hg1
          have hg2 : G0 ≤ iabs g := by rw [HG0.out]; exact hlg.2
          have hp1 : 1 ≤ p := by rw [← hp]; exact (clear_pos s3.1 s4).2.2
          have HS1 := Lib.hid s1
          have HS4 := Lib.hid s4
          clear hlg s1 s4 HM0 HC0 HW0 HW1 HG0 HG1
          have HBT := Lib.hid HB7.out
          go_wp2_with fail
          refine (roll_any A n c 1002 _ (RdB.below hr HBT.out) hm2).mono ?_
          rintro en w8 ⟨s, rfl, hs1, hD, hrl⟩
          have hzr : w7.heap.size ≤ w8.heap.size := hrl.size
          have HRL := Lib.hid hrl
          have HD8 := Lib.hid hD
          have HG8 := Lib.hid (Gs.refl s w8)
          have lq8 : s < w8.heap.size := hD.lt
          have K8_p := Lib.hid (Rd.rds K7_p.out hs1 hrl)
          clear hD hrl K7_p
          go_wp2_with fail
          refine (dbelow_any s 40 _ (by repeat (first | with_reducible exact HD8.out | with_reducible refine Dice.alloc ?_ _)) (by decide)).mono ?_
          rintro en w9 ⟨at0, rfl, at00, at01, hs, hg1⟩
          have hg : Gs s w8 w9 := Gs.trans (Gs.refl s w8) hg1
          have K9_p := Lib.hid (K8_p.out.gs hg)
          have HG9 : Hid (Gs s w8 w9) := Gs.trans HG8.out hg
          have HD9 := Lib.hid (hs)
          have lq9 : s < w9.heap.size := HD9.out.lt
          clear K8_p HG8 HD8
          clear hs hg hg1
          obtain ⟨a, rfl⟩ : ∃ a : Nat, at0 = a := ⟨at0.toNat, by omega⟩
          go_wp2_with fail
          refine (dbelow_any s 40 _ (by repeat (first | with_reducible exact HD9.out | with_reducible refine Dice.alloc ?_ _)) (by decide)).mono ?_
          rintro en w10 ⟨d2, rfl, d20, d21, hs, hg1⟩
          have hg : Gs s w9 w10 := Gs.trans (Gs.refl s w9) hg1
          have K10_p := Lib.hid (K9_p.out.gs hg)
          have HG10 : Hid (Gs s w8 w10) := Gs.trans HG9.out hg
          have HD10 := Lib.hid (hs)
          have lq10 : s < w10.heap.size := HD10.out.lt
          clear K9_p HG9 HD9
          clear hs hg hg1
          obtain ⟨L, hL⟩ : ∃ L : Int, L = (a : Int) + p + d2 := ⟨_, rfl⟩
          have hL2 : (a : Int) + p ≤ L ∧ L ≤ 400 := by omega
          have hee := ec_one (ps := ps) (a := a) (g := g) (L := L) HS1.out (by rw [hp]; omega) (by omega) s2
          have HL := Lib.hid hL
          have HEE := Lib.hid hee
          clear hee
          go_wp2_with fail
          rw [← hL]
          clear hL
          refine (iEch_any Ap p cp ps (some ⟨w10.heap.size, 0, none⟩) 1 1 [(a : Int)] (some ⟨w10.heap.size + 1, 0, none⟩) 1 1 [g] L _ hp hpc (by omega) ((K10_p.out.alloc _).alloc _).rd rfl (Nat.le_refl _) (by omega) ((RdS.new (s := s) _ _ [(a : Int)] rfl lq10).alloc _).rd rfl (Nat.le_refl _) (by omega) (Rd.new2 _ _ [g] (by simp only [World.size_alloc]))).mono ?_
          rintro en w11 ⟨A_x, c_x, rfl, hR, hb⟩
          have hg : Gs s w10 w11 := Gs.trans (Gs.alloc (Gs.alloc (Gs.refl s w10) _) _) (Gs.of_below hb)
          have hb9 : Below w10.heap.size w10 w11 := by
            refine Below.trans ?_ (hb.mono ?_)
            · repeat (first | exact Below.refl _ _ | (refine Below.alloc ?_ ?_ _; rotate_left; ((try simp only [World.size_alloc]); omega)))
            · (try simp only [World.size_alloc]); omega
          have K11_p := Lib.hid (K10_p.out.gs hg)
          have HG11 : Hid (Gs s w8 w11) := Gs.trans HG10.out hg
          have HD11 := Lib.hid (Dice.below HD10.out hb9)
          have lq11 : s < w11.heap.size := HD11.out.lt
          clear K10_p HG10 HD10
          clear hb9
          have K11_x := Lib.hid (OwnR.rds (s := s) hR (by (try simp only [World.size_alloc]); omega))
          clear hR
          clear hb hg
          go_wp2_with fail
          refine (sEch_any Ap p cp ps (some ⟨w11.heap.size, 0, none⟩) 1 1 [(a : Int)] (some ⟨w11.heap.size + 1, 0, none⟩) 1 1 [g] L _ hp hpc (by omega) ((K11_p.out.alloc _).alloc _).rd rfl (Nat.le_refl _) (by omega) ((RdS.new (s := s) _ _ [(a : Int)] rfl lq11).alloc _).rd rfl (Nat.le_refl _) (by omega) (Rd.new2 _ _ [g] (by simp only [World.size_alloc]))).mono ?_
          rintro en w12 ⟨A_y, c_y, rfl, hR, hb⟩
          have hg : Gs s w11 w12 := Gs.trans (Gs.alloc (Gs.alloc (Gs.refl s w11) _) _) (Gs.of_below hb)
          have hb9 : Below w11.heap.size w11 w12 := by
            refine Below.trans ?_ (hb.mono ?_)
            · repeat (first | exact Below.refl _ _ | (refine Below.alloc ?_ ?_ _; rotate_left; ((try simp only [World.size_alloc]); omega)))
            · (try simp only [World.size_alloc]); omega
          have K12_p := Lib.hid (K11_p.out.gs hg)
          have K12_x := Lib.hid (K11_x.out.gs hg)
          have HG12 : Hid (Gs s w8 w12) := Gs.trans HG11.out hg
          have HD12 := Lib.hid (Dice.below HD11.out hb9)
          have lq12 : s < w12.heap.size := HD12.out.lt
          clear K11_p K11_x HG11 HD11
          clear hb9
          have K12_y := Lib.hid (OwnR.rds (s := s) hR (by (try simp only [World.size_alloc]); omega))
          clear hR
          clear hb hg
          have hpl : (ecVal ps [(a : Int)] [g] L).length ≤ 1048576 := ecVal_len
          obtain ⟨X, hX⟩ : ∃ X, X = ecVal ps [(a : Int)] [g] L := ⟨_, rfl⟩
          rw [← hX] at hpl K12_x K12_y HEE ⊢
          clear hX
          obtain ⟨N, hN⟩ : ∃ N, N = X.length := ⟨_, rfl⟩
          rw [← hN] at hpl ⊢
          have HN := Lib.hid hN.symm
          clear hN
          obtain ⟨XC, hXC⟩ : ∃ XC, XC = ecCode ps [(a : Int)] [g] L := ⟨_, rfl⟩
          rw [← hXC] at HEE ⊢
          clear hXC
          go_wp2_with fail
          refine (likeT_any A_x A_y _ _ c_x c_y X X _ HN.out HN.out (by omega) (by omega) K12_x.out.rd K12_y.out.rd rfl).mono ?_
          rintro en w13 ⟨rfl, hb⟩
          have hg : Gs s w12 w13 := Gs.trans (Gs.refl s w12) (Gs.of_below hb)
          have K13_p := Lib.hid (K12_p.out.gs hg)
          have K13_x := Lib.hid (K12_x.out.gs hg)
          have K13_y := Lib.hid (K12_y.out.gs hg)
          have HG13 : Hid (Gs s w8 w13) := Gs.trans HG12.out hg
          have HD13 := Lib.hid (Dice.below HD12.out hb)
          have lq13 : s < w13.heap.size := HD13.out.lt
          clear K12_p K12_x K12_y HG12 HD12
          clear hb hg

          rcases HEE.out with ⟨hc0, hxe, hsx⟩ | hc3
          rotate_left
          · clear HEE
            subst hc3
            go_wp2
            go_ret
            exact ⟨rfl, (bseq HBT.out (HRL.out.trans (Gs.to_below HG13.out hs1 hzr)))⟩
          · subst hc0
            subst hxe
            have hN2 : N = L.toNat := by rw [← HN.out, ech_one_len]
            have HNL := Lib.hid hN2
            clear hN2
            have HV : Hid (∀ i, (ech ps [(a : Int)] [g] L).getD i 0 = if a ≤ i ∧ i < a + ps.length then g * ps.getD (i - a) 0 else 0) := ech_one (by rw [hp]; omega)
            have HSX : Hid (Sig (ech ps [(a : Int)] [g] L)) := (isSig_iff.1 hsx).2
            have hNL : (N : Int) = L := by have := HNL.out; omega
            have HNI := Lib.hid hNL
            have hN0 : 1 ≤ N := by omega
            have hN4 : N ≤ 400 := by omega
            clear hNL HEE hsx
            obtain ⟨X, hX⟩ : ∃ X, X = ech ps [(a : Int)] [g] L := ⟨_, rfl⟩
            rw [← hX] at HV HSX HN K13_x
            clear hX
            rcases K13_x.out with h0 | ⟨b, off, hA, hbs, hc⟩
            · exfalso; have := HN.out; rw [h0] at this; simp at this; omega
            subst hA
            have HC : Hid (∀ k, k < N → w13.cell? ⟨b, off + k, none⟩ = some (.int .i64 (X.getD k 0))) := fun k hk => hc k (by rw [HN.out]; exact hk)
            clear hc
            have HO0 := Lib.hid (OwnV.empty w13 w13.heap.size (Nat.le_refl _))
            have HD0 := Lib.hid (Dice.alloc HD13.out (.cells #[] 2))
            have HG0 := Lib.hid (Gs.alloc (Gs.refl s w13) (.cells #[] 2))
            go_wp2
            go_loopw [25, 26] (fun v i wr => ∃ (k : Nat) (ns : List Int), k ≤ N ∧ i = .int .i64 (k : Int) ∧ Hid (ns.length = k) ∧ Hid (∀ j, j < k → -e ≤ ns.getD j 0 - X.getD j 0 ∧ ns.getD j 0 - X.getD j 0 ≤ e) ∧ Hid (OwnV wr w13.heap.size v ns) ∧ Hid (Dice wr s) ∧ Hid (Gs s w13 wr)) (fun _ i _ => N - (intOf i).toNat)
            case atStart => exact ⟨0, [], Nat.zero_le _, rfl, rfl, (fun j hj => absurd hj (Nat.not_lt_zero _)), HO0, HD0, HG0⟩
            case round =>
              clear HO0 HD0 HG0
              obtain ⟨k, ns, hk, rfl, HL1, HNB, HO, HR, HH⟩ := hrel
              have hzw := HH.out.size
              by_cases hkn : k < N
              · have hx0 := HC.out k hkn
                have hx := HH.out.cell2 hx0 hbs
                have xb := HSX.out.at k
                obtain ⟨x, hxx⟩ : ∃ x, x = X.getD k 0 := ⟨_, rfl⟩
                have HXX := Lib.hid hxx
                rw [← hxx] at hx hx0 xb
                clear hxx
                have hki : (k : Int) < N := by omega
                have hki0 : (0 : Int) ≤ k := by omega
                have hkl : ns.length ≤ 400 := by rw [HL1.out]; omega
                have ew1 : IntKind.i64.wrap (2 * e) = 2 * e := IntWalk.i64_in _ (by omega)
                have ew2 : IntKind.i64.wrap (2 * e + 1) = 2 * e + 1 := IntWalk.i64_in _ (by omega)
                have hpos : (0 : Int) < 2 * e + 1 := by omega
                have HW3 : Hid (∀ d : Int, 0 ≤ d → d < 2 * e + 1 → IntKind.i64.wrap (x + d) = x + d ∧ IntKind.i64.wrap (x + d - e) = x + d - e) := fun d d0 d1 => ⟨IntWalk.i64_in _ (by omega), IntWalk.i64_in _ (by omega)⟩
                go_wp2
                go_region_held_law (fun w9 => w9.cell? ⟨b, off + k, none⟩ = some (.int .i64 x)) (first | with_reducible assumption | go_keep) (first | (go_at_call 57; refine (dbelow_any s (2 * e + 1) _ (by repeat (first | with_reducible exact HR.out | with_reducible refine Dice.drew ?_)) hpos).mono ?_; rintro en wx ⟨d, rfl, d0, d1, hsx, hgx0⟩; have ew3 := (HW3.out d d0 d1).1; have ew4 := (HW3.out d d0 d1).2; have hgx : Gs s wr wx := Gs.trans (by repeat (first | with_reducible exact Gs.refl s wr | with_reducible refine Gs.drew ?_)) hgx0; have hxx9 := hgx.cell2 hx hbs; have hox := OwnV.gs HO.out hgx lq13; have hszx := hgx.size) | (refine step_app rfl (.tmp 163) (.tmp 176) rfl w13.heap.size _ ns rfl ?_ [x + d - e] ⟨wx.heap.size, 0, none⟩ 1 1 rfl rfl ?_ (by omega) (by (try simp only [World.size_alloc, World.size_drew]); omega) ?_; (focus (exact OwnV.alloc hox _)); (focus (intro j hj; obtain rfl : j = 0 := (by omega); show World.cell? _ ⟨_, 0, none⟩ = some (.int .i64 _); exact cell_at rfl)); intro v2 w2 hown2 _ hb1; have hgy : Gs s w13 w2 := Gs.then (Gs.alloc (Gs.trans HH.out hgx) _) hb1; have hdy : Dice w2 s := Dice.low (Dice.alloc hsx _) hb1 lq13; have hcy : w2.cell? ⟨b, off + k, none⟩ = some (.int .i64 x) := hgy.cell2 hx0 hbs) | fail)
                all_goals go_wp2
                all_goals go_roundw
                case rel =>
                  refine ⟨k + 1, ns ++ [x + d - e], by omega, by go_num, ?_, ?_, hown2, hdy, hgy⟩
                  · show _ = _; rw [List.length_append, HL1.out]; rfl
                  · show ∀ j, _
                    intro j hj
                    have e1 := HL1.out
                    rcases Nat.lt_or_ge j k with h | h
                    · rw [List.getD_eq_getElem?_getD, List.getElem?_append_left (by omega), ← List.getD_eq_getElem?_getD]; exact HNB.out j h
                    · obtain rfl : j = k := by omega
                      rw [← HXX.out]
                      have : (ns ++ [x + d - e]).getD j 0 = x + d - e := by simp [List.getD_eq_getElem?_getD, List.getElem?_append_right, e1]
                      rw [this]; omega
                case measure => simp [intOf]; omega
              · obtain rfl : k = N := by omega
                obtain ⟨An, nn, cn, e9, hnn, hnc, hrn, _⟩ := HO.out.sl
                subst e9
                obtain rfl : k = nn := by rw [← hnn]; exact HL1.out.symm
                have HRN := Lib.hid hrn
                have HRP := Lib.hid (RdS.gs K13_p.out HH.out)
                have HGT : Hid (Gs s w8 wr) := Gs.trans HG13.out HH.out
                have hni := HNI.out
                have hmc := mCode_sum (bs := ns) (ps := ps) HS1.out (by omega) (by omega)
                have hfd := clear_found HV.out s3.1 (by rw [hp, hnn]; omega) (by omega) HS4.out (fun i hi => HNB.out i (by omega)) (side_nonneg ps)
                have HMC := Lib.hid hmc
                have HFD := Lib.hid hfd
                clear hmc hfd hrn hni HO HR HH HC
                go_wp2_with fail
                refine (iDl_any An k cn ns Ap p cp ps _ hnn hnc (by omega) HRN.out hp hpc (by omega) HRP.out.rd).mono ?_
                rintro en wz ⟨rfl, hb⟩
                have HTOT := Lib.hid (bseq (bseq HBT.out (HRL.out.trans (Gs.to_below HGT.out hs1 hzr))) hb)
                clear hb
                rcases HMC.out with ⟨m0, _⟩ | ⟨m1, _⟩
                · have hdv : dlVal ns ps = a := by unfold dlVal; rw [if_pos m0, HFD.out]
                  rw [m0, hdv]
                  unfold iabs at hg2
                  rcases Int.lt_or_le g (-g) with h8 | h8
                  all_goals
                    go_wp2
                    go_ret
                    exact ⟨rfl, HTOT.out⟩
                · rw [m1]
                  unfold iabs at hg2
                  rcases Int.lt_or_le g (-g) with h8 | h8
                  all_goals
                    go_wp2
                    go_ret
                    exact ⟨rfl, HTOT.out⟩
end Go.Proofs.Ytgfhmihnnjcagaa
