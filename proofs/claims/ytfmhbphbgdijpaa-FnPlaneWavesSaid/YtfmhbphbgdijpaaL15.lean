/- the law, walked: FnPlaneWaves -/
import Derived.Test.YtfmhbphbgdijpaaDrW5
import Derived.Test.YtfmhbphbgdijpaaLikeM
import Derived.Test.YtfmhbphbgdijpaaDiceL
import Derived.Test.YtfmhbphbgdijpaaPlainPw
import Derived.Test.YtfmhbphbgdijpaaW16
import Derived.Test.YtfmhbphbgdijpaaW17
import Derived.Test.YtfmhbphbgdijpaaW13
import Derived.Test.YtfmhbphbgdijpaaW9
set_option linter.unusedVariables false
set_option linter.unusedSimpArgs false
namespace Go.Proofs.Ytfmhbphbgdijpaa
open Go.RowKit

set_option maxRecDepth 100000 in
set_option maxHeartbeats 32000000 in
theorem lawPw_any (A : Option Addr) (n c : Nat) (w : World) (hr : RdB w A n) :
    Calls Try.prog 13 #[.slice A n c] w fun en w9 => en = .returned (.bool true) ∧ Below w.heap.size w w9 := by
  by_cases hm : 4096 < (n : Int)
  · have hbig : decide (4096 < (n : Int)) = true := decide_eq_true hm
    go_enter Try.func13, Try.ntmps13
    go_wp2_with fail
    refine (big_any _ _ _ _).mono ?_
    rintro en wz ⟨rfl, rfl⟩
    rw [hbig]
    go_wp2
    go_ret
    exact ⟨rfl, Below.refl _ _⟩
  · have hbig : decide (4096 < (n : Int)) = false := decide_eq_false hm
    have hm2 : n ≤ 4096 := by omega
    go_enter Try.func13, Try.ntmps13
    go_wp2_with fail
    refine (big_any _ _ _ _).mono ?_
    rintro en wz ⟨rfl, rfl⟩
    rw [hbig]
    clear hbig hm
    have HAB : Hid (0 < n → ∀ b off, A = some ⟨b, off, none⟩ → b < w.heap.size) := by
      show _ → _
      intro h0 b off e
      rcases hr with h | ⟨b2, off2, e2, h⟩
      · omega
      · rw [e] at e2; cases e2
        obtain ⟨x, hx, _⟩ := h 0 h0
        exact World.block_lt_of_cell? w _ hx
    go_wp2_with fail
    refine (dPw_any A n c _ hr hm2).mono ?_
    rintro en w1 ⟨Px, p, pc, ps, Ax, m, cx, xs, c1, s1, h1, r, v, st, L, rfl, hp, hpc, hp5, hrp, hx, hxc, hx8, hrx, hb1⟩
    go_wp2_with fail
    have hb2 : Below w1.heap.size w1 (w1.alloc (.cells #[.int .i64 c1, .int .i64 s1, .int .i64 h1] 42)) := Below.alloc (Below.refl _ _) (Nat.le_refl _) _
    have hx2 : Box (w1.alloc (.cells #[.int .i64 c1, .int .i64 s1, .int .i64 h1] 42)) w1.heap.size c1 s1 h1 := (BoxW.new w1 _ c1 s1 h1).1
    generalize (w1.alloc (.cells #[.int .i64 c1, .int .i64 s1, .int .i64 h1] 42)) = w2 at hb2 hx2 ⊢
    have K2_p := Lib.hid (Rd.below hrp hb2)
    have K2_x := Lib.hid (Rd.below hrx hb2)
    have K2_b := Lib.hid hx2
    have HB2 := Lib.hid (bseq hb1 hb2)
    clear hb1 hb2 hrp hrx hx2
    refine (iPw_any Px p pc ps Ax m cx xs c1 s1 h1 r v st L _ hp hpc (by omega) K2_p.out hx hxc (by omega) K2_x.out).mono ?_
    rintro en w3 ⟨A_i, c_i, rfl, hR, hb⟩
    have K3_p := Lib.hid (K2_p.out.below hb)
    have K3_x := Lib.hid (K2_x.out.below hb)
    have K3_b := Lib.hid (K2_b.out.below hb)
    have HB3 := Lib.hid (bseq HB2.out hb)
    clear K2_p K2_x K2_b HB2
    have K3_i := Lib.hid hR
    clear hR
    clear hb
    obtain ⟨b0, b1, b2⟩ := K3_b.out
    go_wp2_with fail
    clear b0 b1 b2
    refine (sPw_any Px p pc ps Ax m cx xs c1 s1 h1 r v st L _ hp hpc (by omega) K3_p.out hx hxc (by omega) K3_x.out).mono ?_
    rintro en w4 ⟨A_j, c_j, rfl, hR, hb⟩
    have K4_p := Lib.hid (K3_p.out.below hb)
    have K4_x := Lib.hid (K3_x.out.below hb)
    have K4_b := Lib.hid (K3_b.out.below hb)
    have K4_i := Lib.hid (K3_i.out.below hb)
    have HB4 := Lib.hid (bseq HB3.out hb)
    clear K3_p K3_x K3_b K3_i HB3
    have K4_j := Lib.hid hR
    clear hR
    clear hb
    have hrow : ∀ k, ((pwVal ps xs c1 s1 h1 r v st L).getD k []).length ≤ 400 := fun k => pwVal_row
    have hnx : (pwVal ps xs c1 s1 h1 r v st L).length ≤ 12 := pwVal_len
    obtain ⟨WC, hWC⟩ : ∃ WC, WC = pwCode ps xs c1 s1 h1 r v st L := ⟨_, rfl⟩
    rw [← hWC]
    have HWC := Lib.hid hWC
    clear hWC
    obtain ⟨X, hX⟩ : ∃ X, X = pwVal ps xs c1 s1 h1 r v st L := ⟨_, rfl⟩
    rw [← hX] at hrow hnx K4_i K4_j ⊢
    have HX := Lib.hid hX
    have HRW := Lib.hid hrow
    clear hX hrow
    obtain ⟨NX, hNX⟩ : ∃ NX, NX = X.length := ⟨_, rfl⟩
    rw [← hNX] at hnx ⊢
    have HNX := Lib.hid hNX.symm
    clear hNX
    go_wp2_with fail
    refine (likeM_any A_i A_j NX c_i c_j X _ HNX.out (by omega) K4_i.out.rdM K4_j.out.rdM).mono ?_
    rintro en w5 ⟨rfl, mq, hq⟩
    have hb := bquiet hq
    clear hq
    have K5_p := Lib.hid (K4_p.out.below hb)
    have K5_x := Lib.hid (K4_x.out.below hb)
    have K5_b := Lib.hid (K4_b.out.below hb)
    have K5_i := Lib.hid (K4_i.out.below hb)
    have K5_j := Lib.hid (K4_j.out.below hb)
    have HB5 := Lib.hid (bseq HB4.out hb)
    clear K4_p K4_x K4_b K4_i K4_j HB4
    clear hb
    by_cases h0 : WC = 0
    rotate_left
    · have hz : (WC != 0) = true := by simpa using h0
      clear h0
      go_wp2
      go_ret
      exact ⟨rfl, HB5.out⟩
    · have hz0 : pwCode ps xs c1 s1 h1 r v st L = 0 := by rw [← HWC.out]; exact h0
      subst h0
      have hrg := pw_range hz0
      obtain ⟨S, rfl⟩ : ∃ S : Nat, st = S := ⟨st.toNat, by omega⟩
      obtain ⟨N, rfl⟩ : ∃ N : Nat, L = N := ⟨L.toNat, by omega⟩
      obtain ⟨⟨r1, r2⟩, r3, r4⟩ := hrg
      by_cases hst : S + p ≤ N
      rotate_left
      · have hgt : (N : Int) < S + p := by omega
        clear hz0 HWC
        go_wp2
        go_ret
        exact ⟨rfl, HB5.out⟩
      · have hngt : ¬ (N : Int) < S + p := by omega
        have hlw := pw_law hz0 (by rw [hp]; exact hst)
        rw [← HX.out, hx, hp] at hlw
        obtain ⟨m1, m2, m3, m4, m5, m6, m7, m8, m9, m10, m11⟩ := hlw
        have HWV := Lib.hid m1
        have HEN := Lib.hid m2
        have HDL2 : Hid (∀ D, D = dlVal xs c1 s1 h1 r v → D.length = m) := fun D h => by rw [h]; exact m3
        have HBM := Lib.hid m5
        have HOW := Lib.hid m6
        have HBN := Lib.hid m8
        have HBV := Lib.hid m9
        have HES := Lib.hid m10
        have HSP := Lib.hid m11
        have HBL : Hid True := trivial
        have hEb := m7
        obtain rfl : m = NX := by rw [← HNX.out]; exact m4.symm
        clear m1 m2 m3 m4 m5 m6 m7 m8 m9 m10 m11 hz0 HWC HX hst
        obtain ⟨b0, b1, b2⟩ := K5_b.out
        go_wp2_with fail
        clear b0 b1 b2
        refine (iDl_any Ax m cx xs c1 s1 h1 r v _ hx hxc (by omega) K5_x.out).mono ?_
        rintro en w6 ⟨A_d, c_d, rfl, hR, hb⟩
        have K6_p := Lib.hid (K5_p.out.below hb)
        have K6_x := Lib.hid (K5_x.out.below hb)
        have K6_b := Lib.hid (K5_b.out.below hb)
        have K6_i := Lib.hid (K5_i.out.below hb)
        have K6_j := Lib.hid (K5_j.out.below hb)
        have HB6 := Lib.hid (bseq HB5.out hb)
        clear K5_p K5_x K5_b K5_i K5_j HB5
        have K6_d := Lib.hid hR
        clear hR
        clear hb
        obtain ⟨D, hD⟩ : ∃ D, D = dlVal xs c1 s1 h1 r v := ⟨_, rfl⟩
        rw [HWV.out, ← hD, HDL2.out D hD]
        rw [← hD] at K6_d HBM HOW HBV HBN
        have hmd : m ≤ c_d := by have := K6_d.out.2.1; rw [HDL2.out D hD] at this; exact this
        have HDL := Lib.hid (HDL2.out D hD)
        clear hD HDL2 HWV
        go_wp2_with fail
        refine (iBp_any A_i m c_i X A_d m c_d D _ HNX.out (by omega) (fun k _ => Nat.le_trans (HRW.out k) (by omega)) K6_i.out.rdM HDL.out (by omega) (by omega) K6_d.out.rd).mono ?_
        rintro en w7 ⟨rfl, hb⟩
        have K7_p := Lib.hid (K6_p.out.below hb)
        have K7_x := Lib.hid (K6_x.out.below hb)
        have K7_b := Lib.hid (K6_b.out.below hb)
        have K7_i := Lib.hid (K6_i.out.below hb)
        have K7_j := Lib.hid (K6_j.out.below hb)
        have K7_d := Lib.hid (K6_d.out.below hb)
        have HB7 := Lib.hid (bseq HB6.out hb)
        clear K6_p K6_x K6_b K6_i K6_j K6_d HB6
        clear hb
        rw [HBM.out, HOW.out]
        go_wp2_with fail
        refine (iEn_any Px p pc ps _ hp hpc (by omega) K7_p.out).mono ?_
        rintro en w8 ⟨rfl, mq, hq⟩
        have hb := bquiet hq
        clear hq
        have K8_p := Lib.hid (K7_p.out.below hb)
        have K8_x := Lib.hid (K7_x.out.below hb)
        have K8_b := Lib.hid (K7_b.out.below hb)
        have K8_i := Lib.hid (K7_i.out.below hb)
        have K8_j := Lib.hid (K7_j.out.below hb)
        have K8_d := Lib.hid (K7_d.out.below hb)
        have HB8 := Lib.hid (bseq HB7.out hb)
        clear K7_p K7_x K7_b K7_i K7_j K7_d HB7
        clear hb
        rw [HEN.out]
        obtain ⟨E, hE⟩ : ∃ E, E = enVal ps := ⟨_, rfl⟩
        rw [← hE] at hEb HES ⊢
        clear hE

        have hbk := Below.alloc (Below.refl w8.heap.size w8) (Nat.le_refl _) (.cells #[] 2)
        have hBk : w.heap.size ≤ w8.heap.size := HB8.out.size
        go_wp2_with fail
        refine (roll_any w.heap.size A n c 1101 _ ((RdB.below hr HB8.out).below hbk) hm2 HAB.out).mono ?_
        rintro en wl ⟨s, rfl, hs1, hD, hb⟩
        have hsk : w8.heap.size < s := by simp only [World.size_alloc] at hs1; omega
        have hbl : Below w8.heap.size w8 wl := hbk.trans (hb.mono (by simp only [World.size_alloc]; omega))
        have HL0 : Hid (Lst s wl w8.heap.size (.slice (some ⟨w8.heap.size, 0, none⟩) 0 0) []) := ⟨OwnV.below (OwnV.empty w8 w8.heap.size (Nat.le_refl _)) hb, fun e => by have e2 : w8.heap.size = s := (by injection e); omega⟩
        have HD0 := Lib.hid hD
        have HBL0 := Lib.hid hbl
        have hsl : s < wl.heap.size := hD.lt
        clear hD hb hbk hbl hs1
        go_wp2
        go_loopw [20, 22] (fun u i wr => ∃ (k : Nat) (es : List Int), k ≤ m ∧ i = .int .i64 (k : Int) ∧ Hid (es.length = k) ∧ Hid (∀ x ∈ es, -10 ≤ x ∧ x ≤ 10) ∧ Hid (Lst s wr w8.heap.size u es) ∧ Hid (Dice w.heap.size wr s) ∧ Hid (Below w8.heap.size w8 wr)) (fun _ i _ => m - (intOf i).toNat)
        case atStart => exact ⟨0, [], Nat.zero_le _, rfl, rfl, (fun x hx => by cases hx), HL0, HD0, HBL0⟩
        case round =>
          clear HL0 HD0 HBL0
          obtain ⟨k, es, hk, rfl, HEL, HEB, HLS, HR, HBW⟩ := hrel
          have hzw := HBW.out.size
          have hsr := HR.out.lt
          by_cases hkm : k < m
          · have hki : (k : Int) < m := by omega
            have hel : es.length ≤ 12 := by rw [HEL.out]; omega
            go_wp2_with fail
            refine (dbelow_any w.heap.size s 21 _ HR.out (by omega) (by decide)).mono ?_
            rintro en wa ⟨d, rfl, d0, d1, hs, hg⟩
            have HLA := Lib.hid (HLS.out.gs hg)
            have HRA := Lib.hid hs
            have HBA : Hid (Below w8.heap.size w8 wa) := HBW.out.trans (hg.to_below (by omega) hzw)
            have hza := HBA.out.size
            have hsa := hs.lt
            clear hs hg HLS HR HBW
            go_wp2_with (at_builtin; refine app_lies rfl _ _ rfl w8.heap.size _ es rfl (OwnV.alloc HLA.out.1 _) (d - 10) _ rfl (cell_new1 _ _) (by omega) (by simp only [World.size_alloc]; omega) ?_; intro g cap wb hown hg hat)
            have HLB := Lib.hid (Lst.app HLA.out _ hsa hown hat)
            have HRB := Lib.hid (Dice.grown (Dice.alloc HRA.out _) hg HLA.out.2 (fun k hk => Nat.le_trans hBk (HLA.out.from k hk)))
            have HBB : Hid (Below w8.heap.size w8 wb) := HBA.out.trans (Lst.bel HLA.out _ hza hg)
            clear hown hg hat
            go_roundw
            case rel =>
              refine ⟨k + 1, es ++ [d - 10], by omega, by go_num, ?_, ?_, HLB, HRB, HBB⟩
              · show _ = _; rw [List.length_append, HEL.out]; rfl
              · show ∀ x, _
                intro x hx
                rcases List.mem_append.1 hx with h | h
                · exact HEB.out x h
                · obtain rfl : x = _ := List.mem_singleton.1 h
                  omega
            case measure => simp [intOf]; omega
          · obtain rfl : k = m := by omega
            obtain ⟨w60, hw60⟩ : ∃ w60 : World, w60 = wr := ⟨_, rfl⟩
            subst hw60
            have K60_p := Lib.hid (K8_p.out.below HBW.out)
            have K60_i := Lib.hid (K8_i.out.below HBW.out)
            have K60_d := Lib.hid (K8_d.out.below HBW.out)
            have HB60 : Hid (Below w.heap.size w w60) := bseq HB8.out HBW.out
            obtain ⟨A_e, ne, c_e, e9, hes, hec, hre, _⟩ := HLS.out.1.sl
            subst e9
            obtain rfl : k = ne := by rw [← hes]; exact HEL.out.symm
            have K60_e := Lib.hid hre
            have HBE := Lib.hid (HES.out es hes HEB.out)
            clear hre HLS HR HBW HES
            go_wp2_with fail
            refine (iBp_any A_i k c_i X A_e k c_e es _ HNX.out (by omega) (fun k _ => Nat.le_trans (HRW.out k) (by omega)) K60_i.out.rdM hes (by omega) (by omega) K60_e.out).mono ?_
            rintro en w61 ⟨rfl, hb⟩
            have K61_p := Lib.hid (K60_p.out.below hb)
            have K61_i := Lib.hid (K60_i.out.below hb)
            have K61_d := Lib.hid (K60_d.out.below hb)
            have K61_e := Lib.hid (K60_e.out.below hb)
            have HB61 := Lib.hid (bseq HB60.out hb)
            clear K60_p K60_i K60_d K60_e HB60
            clear hb
            rw [HBE.out.1]
            have hless := HBE.out.2
            obtain ⟨LS, hLS⟩ : ∃ LS, LS = bpVal X es := ⟨_, rfl⟩
            rw [← hLS] at hless ⊢
            clear hLS
            have HLE := Lib.hid hless
            clear hless
            go_wp2_with fail
            refine (iBeamOf_any A_i k c_i X A_d k c_d D _ HNX.out (by omega) (fun k _ => Nat.le_trans (HRW.out k) (by omega)) K61_i.out.rdM HDL.out (by omega) (by omega) K61_d.out.rd).mono ?_
            rintro en w62 ⟨A_f, c_f, rfl, hR, hb⟩
            have K62_p := Lib.hid (K61_p.out.below hb)
            have K62_i := Lib.hid (K61_i.out.below hb)
            have K62_d := Lib.hid (K61_d.out.below hb)
            have K62_e := Lib.hid (K61_e.out.below hb)
            have HB62 := Lib.hid (bseq HB61.out hb)
            clear K61_p K61_i K61_d K61_e HB61
            have K62_f := Lib.hid hR
            clear hR
            clear hb
            rw [HBM.out, HBN.out]
            go_wp2_with fail
            refine (sBeamOf_any A_i k c_i X A_d k c_d D _ HNX.out (by omega) (fun k _ => Nat.le_trans (HRW.out k) (by omega)) K62_i.out.rdM HDL.out (by omega) (by omega) K62_d.out.rd).mono ?_
            rintro en w63 ⟨A_g, c_g, rfl, hR, hb⟩
            have K63_p := Lib.hid (K62_p.out.below hb)
            have K63_i := Lib.hid (K62_i.out.below hb)
            have K63_d := Lib.hid (K62_d.out.below hb)
            have K63_e := Lib.hid (K62_e.out.below hb)
            have K63_f := Lib.hid (K62_f.out.below hb)
            have HB63 := Lib.hid (bseq HB62.out hb)
            clear K62_p K62_i K62_d K62_e K62_f HB62
            have K63_g := Lib.hid hR
            clear hR
            clear hb
            rw [HBM.out, HBN.out]
            obtain ⟨BV, hBV⟩ : ∃ BV, BV = bmVal X D := ⟨_, rfl⟩
            rw [← hBV] at K63_f K63_g HBV HBN
            clear hBV
            go_wp2_with fail
            refine (likeT_any A_f A_g _ _ c_f c_g BV BV _ HBN.out HBN.out (by omega) (by omega) K63_f.out.rd K63_g.out.rd rfl).mono ?_
            rintro en w64 ⟨rfl, hb⟩
            have K64_p := Lib.hid (K63_p.out.below hb)
            have K64_i := Lib.hid (K63_i.out.below hb)
            have K64_d := Lib.hid (K63_d.out.below hb)
            have K64_e := Lib.hid (K63_e.out.below hb)
            have K64_f := Lib.hid (K63_f.out.below hb)
            have K64_g := Lib.hid (K63_g.out.below hb)
            have HB64 := Lib.hid (bseq HB63.out hb)
            clear K63_p K63_i K63_d K63_e K63_f K63_g HB63
            clear hb

            have hnn : ((N : Int) != N) = false := by simp
            have hkk : 0 ≤ (k : Int) * k ∧ (k : Int) * k ≤ 144 := by
              have h1 : (k : Int) * k ≤ 12 * 12 := Int.mul_le_mul (by omega) (by omega) (by omega) (by omega)
              have h2 : 0 ≤ (k : Int) * k := Int.mul_nonneg (by omega) (by omega)
              omega
            have hkE : 0 ≤ (k : Int) * k * E ∧ (k : Int) * k * E ≤ 57600000000 := by
              have h1 : (k : Int) * k * E ≤ 144 * 400000000 := Int.mul_le_mul hkk.2 hEb.2 hEb.1 (by omega)
              have h2 : 0 ≤ (k : Int) * k * E := Int.mul_nonneg hkk.1 hEb.1
              omega
            have HKE := Lib.hid hkE
            have HKK := Lib.hid hkk
            clear hkE hkk
            have HPP := Lib.hid K64_p.out
            have HFF := Lib.hid K64_f.out.rd
            go_wp2
            go_loop [30] (fun i => ∃ j : Nat, j ≤ N ∧ i = .int .i64 (j : Int)) (fun i => N - (intOf i).toNat)
            case atStart => exact ⟨0, Nat.zero_le _, rfl⟩
            case round =>
              obtain ⟨j, hj, rfl⟩ := hrel
              by_cases hjn : j < N
              · rcases HFF.out with h0 | ⟨fb, fo, hF, hfc⟩
                · exfalso; have := HBN.out; rw [h0] at this; simp at this; omega
                subst hF
                have cf := hfc j (by rw [HBN.out]; exact hjn)
                rw [HBV.out j hjn] at cf
                have hji : (j : Int) < N := by omega
                clear hfc
                by_cases hc : S ≤ j ∧ j < S + p
                · rw [if_pos hc] at cf
                  rcases HPP.out with h0 | ⟨pb, po, hP, hpc2⟩
                  · exfalso; rw [h0] at hp; simp at hp; omega
                  subst hP
                  have cp := hpc2 (j - S) (by rw [hp]; omega)
                  have cq : w64.cell? ⟨pb, po + ((j : Int) - S).toNat, none⟩ = some (.int .i64 (ps.getD (j - S) 0)) := by
                    rw [show ((j : Int) - S).toNat = j - S by omega]; exact cp
                  have vb := HSP.out.at (j - S)
                  obtain ⟨u, hu⟩ : ∃ u, u = ps.getD (j - S) 0 := ⟨_, rfl⟩
                  rw [← hu] at cf cp cq vb
                  clear hu hpc2
                  have hm9 := bd_mul (a := (k : Int)) (b := u) (A := 12) (B := 1000) (by omega) vb
                  have h1 : (S : Int) ≤ j := by omega
                  have h2 : (j : Int) < S + p := by omega
                  have h3 : (0 : Int) ≤ (j : Int) - S := by omega
                  have h4 : (j : Int) - S < p := by omega
                  have e8 : ((k : Int) * u != (k : Int) * u) = false := by simp
                  go_wp2
                  go_round
                  case rel => exact ⟨j + 1, by omega, by go_num⟩
                  case measure => simp [intOf]; omega
                · rw [if_neg hc, Int.mul_zero] at cf
                  have hc2 : ¬ ((S : Int) ≤ j ∧ (j : Int) < S + p) := by omega
                  rcases Int.lt_or_le (j : Int) S with h1 | h1
                  · have h2 : ¬ (S : Int) ≤ j := by omega
                    clear hc hc2
                    go_wp2
                    go_round
                    case rel => exact ⟨j + 1, by omega, by go_num⟩
                    case measure => simp [intOf]; omega
                  · have h2 : ¬ (j : Int) < S + p := by omega
                    clear hc hc2
                    go_wp2
                    go_round
                    case rel => exact ⟨j + 1, by omega, by go_num⟩
                    case measure => simp [intOf]; omega
              · obtain rfl : N = j := by omega
                have hkE := HKE.out
                have hkk := HKK.out
                have hless := HLE.out
                go_wp2
                go_ret
                exact ⟨rfl, HB64.out⟩
end Go.Proofs.Ytfmhbphbgdijpaa
