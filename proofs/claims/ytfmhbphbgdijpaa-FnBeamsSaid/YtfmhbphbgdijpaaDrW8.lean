/- walks: directions drawn, the best beam drawn -/
import Derived.Test.YtfmhbphbgdijpaaDirM
import Derived.Test.YtfmhbphbgdijpaaDrW7
import Derived.Test.YtfmhbphbgdijpaaW17
set_option linter.unusedVariables false
set_option linter.unusedSimpArgs false
namespace Go.Proofs.Ytfmhbphbgdijpaa
open Go.RowKit

theorem res_five {fn : Func} {t u v x y : Tmp} (h : fn.results = #[.tmp t, .tmp u, .tmp v, .tmp x, .tmp y]) (tmps : Array Value) (P : Program) (w : World) :
    (results fn tmps).run P w = .ok (.tuple #[tmps.getD t undef, tmps.getD u undef, tmps.getD v undef, tmps.getD x undef, tmps.getD y undef]) w := by
  simp [results, h]
def BbDraw (w : World) (en : Ending) (w9 : World) : Prop := ∃ (A : Option Addr) (n c : Nat) (rows : List (List Int)) (B : Option Addr) (p d : Nat) (xs : List Int) (D : Option Addr) (m dc : Nat) (f g e : Nat → Int) (r v : Int),
  en = .returned (.tuple #[.slice A n c, .slice B p d, .slice D m dc, .int .i64 r, .int .i64 v]) ∧ rows.length = n ∧ n ≤ 12 ∧ (∀ k, (rows.getD k []).length ≤ 500) ∧ RdM w9 A rows ∧ xs.length = p ∧ p ≤ d ∧ p ≤ 8 ∧ Rd w9 B xs ∧ m ≤ 41 ∧ RdD w9 D m f g e ∧ Below w.heap.size w w9

set_option maxRecDepth 100000 in
set_option maxHeartbeats 8000000 in
theorem dBb_any (A : Option Addr) (n c : Nat) (w : World) (hr : RdB w A n) (hm : n ≤ 4096) : Calls Try.prog 24 #[.slice A n c] w (BbDraw w) := by
  go_enter Try.func24, Try.ntmps24
  go_wp2_with fail
  refine (from_any A n c _ hr hm).mono ?_
  rintro en w1 ⟨s, rfl, hs1, hS1, hb1⟩
  have ls0 := hS1.lt
  have HB1 := Lib.hid hb1
  have hz1 := hb1.size
  clear hr hb1
  go_wp2_with fail
  refine (dTimes_any s _ (by repeat (first | with_reducible exact hS1 | with_reducible refine Src.alloc ?_ _))).mono ?_
  rintro en w2 ⟨r, v, rfl, hs, hg⟩
  have HS2 := Lib.hid hs
  have HG2 : Hid (Gs s w1 w2) := Gs.trans (by repeat (first | with_reducible exact (Gs.refl s w1) | with_reducible refine Gs.alloc ?_ _)) hg
  have hz2 : w1.heap.size ≤ w2.heap.size := HG2.out.size
  have lq2 : s < w2.heap.size := HS2.out.lt
  clear hs hg
  go_wp2_with fail
  refine (dArr_any s _ (by repeat (first | with_reducible exact HS2.out | with_reducible refine Src.alloc ?_ _))).mono ?_
  rintro en w3 ⟨av, xs, rfl, hown, xslen, hs, hg⟩
  have HS3 := Lib.hid hs
  have HG3 : Hid (Gs s w1 w3) := Gs.trans (by repeat (first | with_reducible exact HG2.out | with_reducible refine Gs.alloc ?_ _)) hg
  have hz3 : w1.heap.size ≤ w3.heap.size := HG3.out.size
  have lq3 : s < w3.heap.size := HS3.out.lt
  have HO3_0 := Lib.hid hown
  clear hs hg hown
  obtain ⟨A9, p9, d9, e9, hp9, hpd9, _, ha9⟩ := HO3_0.out.sl
  cases e9
  have HRR : Hid (A9 = none ∨ ∃ g, A9 = some ⟨g, 0, none⟩) := by
    obtain ⟨A', c', e', hR⟩ := HO3_0.out.R
    injection e' with q1 q2 q3
    show _ ∨ _
    rcases hR.2.2 with ⟨h0, _⟩ | ⟨g, h0, _⟩
    · exact .inl (q1.trans h0)
    · exact .inr ⟨g, q1.trans h0⟩
  have HA0 := Lib.hid ha9
  have hp8 : p9 ≤ 8 := by omega
  have HP9 := Lib.hid hp9
  have HX3 : Hid (RdS s w3 A9 xs) := OwnV.rds HO3_0.out lq2
  clear ha9 hp9 HO3_0
  go_wp2_with fail
  refine (dChan_any s _ (by repeat (first | with_reducible exact HS3.out | with_reducible refine Src.alloc ?_ _))).mono ?_
  rintro en w4 ⟨cv, rows, rfl, hch, hrl, hs, hg⟩
  have HS4 := Lib.hid hs
  have HG4 : Hid (Gs s w1 w4) := Gs.trans (by repeat (first | with_reducible exact HG3.out | with_reducible refine Gs.alloc ?_ _)) hg
  have hz4 : w1.heap.size ≤ w4.heap.size := HG4.out.size
  have lq4 : s < w4.heap.size := HS4.out.lt
  have HF4_x : Hid (RdS s w4 A9 xs) := RdS.gs (by repeat (first | with_reducible exact HX3.out | with_reducible refine RdS.alloc ?_ _)) hg
  clear hs hg
  obtain ⟨A2, n2, c2, e2, hn2, hc2, hrm⟩ := hch.sl lq3
  subst e2
  have hn5 : n2 ≤ 5 := by omega
  have HN2 := Lib.hid hn2
  have HC4 : Hid (RdMS s w4 A2 rows) := hrm
  clear hch hrl hn2 hrm
  have HD0 := Lib.hid (DrM.empty w4 w4.heap.size (Nat.le_refl _))
  go_wp2_with fail
  refine (next_any s _ _ (by repeat (first | with_reducible exact HS4.out | with_reducible refine Src.alloc ?_ _))).mono ?_
  rintro en w5 ⟨x, rfl, x0, xb, hs, hg⟩
  have HS5 := Lib.hid hs
  have HG5 : Hid (Gs s w4 w5) := Gs.trans (by repeat (first | with_reducible exact (Gs.refl s w4) | with_reducible refine Gs.alloc ?_ _)) hg
  have hz5 : w4.heap.size ≤ w5.heap.size := HG5.out.size
  have lq5 : s < w5.heap.size := HS5.out.lt
  have HF5_d : Hid (DrM w5 w4.heap.size (.slice (some ⟨w4.heap.size, 0, none⟩) 0 0) 0 []) := DrM.gs (by repeat (first | with_reducible exact HD0.out | with_reducible refine DrM.alloc ?_ _)) hg lq4
  clear hs hg

  go_wp2
  go_loopw [12, 13] (fun v i wr => ∃ (j m : Nat) (ts : List Int), i = .int .i64 (j : Int) ∧ m + j ≤ 4 ∧ Hid (DrM wr w4.heap.size v m ts) ∧ Hid (Src wr s) ∧ Hid (Gs s w4 wr)) (fun _ i _ => (intOf i).toNat)
  case atStart => exact ⟨x.toNat, 0, [], by congr 1; omega, by omega, HF5_d, HS5, HG5⟩
  case round =>
    obtain ⟨j, m, ts, rfl, hl, HDM, HR, HH⟩ := hrel
    have hlq := HR.out.lt
    have hz : w4.heap.size ≤ wr.heap.size := HH.out.size
    cases j with
    | zero =>
      obtain ⟨A5, c5, e5, hc5, _, hrd⟩ := HDM.out.sl (s := s) lq4
      subst e5
      generalize (fun k => ts.getD (k * 3) 0) = f at hrd
      generalize (fun k => ts.getD (k * 3 + 1) 0) = g at hrd
      generalize (fun k => ts.getD (k * 3 + 2) 0) = e at hrd
      have HD20 := Lib.hid hrd
      have HX20 := Lib.hid (HF4_x.out.gs HH.out)
      have HC20 := Lib.hid (HC4.out.gs HH.out)
      clear hrd HDM
      by_cases hm0 : m = 0
      · subst hm0
        go_wp2_with fail
        refine (next_any s _ _ (by repeat (first | with_reducible exact HR.out | with_reducible refine Src.alloc ?_ _))).mono ?_
        rintro en w21 ⟨k40, rfl, k400, k40b, hs, hg⟩
        have HS21 := Lib.hid hs
        have HG21 : Hid (Gs s w4 w21) := Gs.trans (by repeat (first | with_reducible exact HH.out | with_reducible refine Gs.alloc ?_ _)) hg
        have hz21 : w4.heap.size ≤ w21.heap.size := HG21.out.size
        have lq21 : s < w21.heap.size := HS21.out.lt
        have HF21_x : Hid (RdS s w21 A9 xs) := RdS.gs (by repeat (first | with_reducible exact HX20.out | with_reducible refine RdS.alloc ?_ _)) hg
        have HF21_c : Hid (RdMS s w21 A2 rows) := RdMS.gs (by repeat (first | with_reducible exact HC20.out | with_reducible refine RdMS.alloc ?_ _)) hg
        have HF21_d : Hid (RdDS s w21 A5 0 f g e) := RdDS.gs (by repeat (first | with_reducible exact HD20.out | with_reducible refine RdDS.alloc ?_ _)) hg
        clear hs hg
        by_cases e0 : k40 = 0
        · have f0 : (k40 == 0) = true := by simpa using e0
          clear e0
          have hmk : ∀ w : World, (Instr.makeSlice 35 (.int .i64 41) (.int .i64 41)).run Try.prog w = .ok (.slice (some ⟨w.heap.size, 0, none⟩) 41 41) (w.alloc (.cells (madeCells #[.int .i64 0, .int .i64 0, .int .i64 0] (41 * 3)) 42)) := mk_trips 41 (by omega)
          go_wp2
          go_region
          all_goals go_wp2
          all_goals refine bodyPost_ret (res_five rfl _ _ _) rfl ?_
          all_goals exact ⟨A2, n2, c2, rows, A9, p9, d9, xs, _, 41, 41, _, _, _, r, v, rfl, HN2.out, by omega, HF21_c.out.rows, (HF21_c.out.gs (by repeat (first | with_reducible exact Gs.refl _ _ | with_reducible refine Gs.alloc ?_ _ | with_reducible refine Gs.drew ?_))).rdM, HP9.out, hpd9, hp8, (HF21_x.out.gs (by repeat (first | with_reducible exact Gs.refl _ _ | with_reducible refine Gs.alloc ?_ _ | with_reducible refine Gs.drew ?_))).rd, by omega, (trips_zero _ _ 41 (fun _ => 0) (fun _ => 0) (fun _ => 0)).rd, HB1.out.trans (Gs.to_below (s := s) (Gs.trans HG4.out (Gs.trans HG21.out (by repeat (first | with_reducible exact Gs.refl _ _ | with_reducible refine Gs.alloc ?_ _ | with_reducible refine Gs.drew ?_)))) hs1 hz1)⟩
        · have f0 : (k40 == 0) = false := by simpa using e0
          clear e0
          rcases HRR.out with hA | ⟨gd, hA⟩
          · subst hA
            have hcz := HA0.out rfl
            obtain ⟨rfl, rfl⟩ := hcz
            have hn0 : (0 : Int) ≤ n2 := by omega
            have hn9 : ¬ (n2 : Int) < 0 := by omega
            go_wp2
            go_region
            all_goals go_wp2
            all_goals refine bodyPost_ret (res_five rfl _ _ _) rfl ?_
            all_goals exact ⟨A2, n2, c2, rows, none, 0, _, xs.take 0, _, 0, _, _, _, _, r, v, rfl, HN2.out, by omega, HF21_c.out.rows, (HF21_c.out.gs (by repeat (first | with_reducible exact Gs.refl _ _ | with_reducible refine Gs.alloc ?_ _ | with_reducible refine Gs.drew ?_))).rdM, (by rw [List.length_take, HP9.out]; omega), by omega, by omega, ((RdS.take HF21_x.out _).gs (by repeat (first | with_reducible exact Gs.refl _ _ | with_reducible refine Gs.alloc ?_ _ | with_reducible refine Gs.drew ?_))).rd, by omega, (HF21_d.out.gs (by repeat (first | with_reducible exact Gs.refl _ _ | with_reducible refine Gs.alloc ?_ _ | with_reducible refine Gs.drew ?_))).rdD, HB1.out.trans (Gs.to_below (s := s) (Gs.trans HG4.out (Gs.trans HG21.out (by repeat (first | with_reducible exact Gs.refl _ _ | with_reducible refine Gs.alloc ?_ _ | with_reducible refine Gs.drew ?_)))) hs1 hz1)⟩
          · subst hA
            rcases Nat.lt_trichotomy p9 n2 with h | h | h
            · have hi : (p9 : Int) < n2 := by omega
              have hi2 : ¬ (n2 : Int) < p9 := by omega
              have hi3 : (p9 : Int) ≤ n2 := by omega
              have hi4 : (p9 : Int) ≤ d9 := by omega
              go_wp2
              go_region
              all_goals go_wp2
              all_goals refine bodyPost_ret (res_five rfl _ _ _) rfl ?_
              all_goals exact ⟨A2, n2, c2, rows, (some ⟨gd, 0, none⟩), p9, _, xs.take p9, _, 0, _, _, _, _, r, v, rfl, HN2.out, by omega, HF21_c.out.rows, (HF21_c.out.gs (by repeat (first | with_reducible exact Gs.refl _ _ | with_reducible refine Gs.alloc ?_ _ | with_reducible refine Gs.drew ?_))).rdM, (by rw [List.length_take, HP9.out]; omega), by omega, by omega, ((RdS.take HF21_x.out _).gs (by repeat (first | with_reducible exact Gs.refl _ _ | with_reducible refine Gs.alloc ?_ _ | with_reducible refine Gs.drew ?_))).rd, by omega, (HF21_d.out.gs (by repeat (first | with_reducible exact Gs.refl _ _ | with_reducible refine Gs.alloc ?_ _ | with_reducible refine Gs.drew ?_))).rdD, HB1.out.trans (Gs.to_below (s := s) (Gs.trans HG4.out (Gs.trans HG21.out (by repeat (first | with_reducible exact Gs.refl _ _ | with_reducible refine Gs.alloc ?_ _ | with_reducible refine Gs.drew ?_)))) hs1 hz1)⟩
            · have hpn : (p9 : Int) = n2 := by omega
              have hi4 : (n2 : Int) ≤ d9 := by omega
              have hi5 : (p9 : Int) ≤ d9 := by omega
              go_wp2
              go_region
              all_goals go_wp2
              all_goals refine bodyPost_ret (res_five rfl _ _ _) rfl ?_
              all_goals exact ⟨A2, n2, c2, rows, (some ⟨gd, 0, none⟩), n2, _, xs.take n2, _, 0, _, _, _, _, r, v, rfl, HN2.out, by omega, HF21_c.out.rows, (HF21_c.out.gs (by repeat (first | with_reducible exact Gs.refl _ _ | with_reducible refine Gs.alloc ?_ _ | with_reducible refine Gs.drew ?_))).rdM, (by rw [List.length_take, HP9.out]; omega), by omega, by omega, ((RdS.take HF21_x.out _).gs (by repeat (first | with_reducible exact Gs.refl _ _ | with_reducible refine Gs.alloc ?_ _ | with_reducible refine Gs.drew ?_))).rd, by omega, (HF21_d.out.gs (by repeat (first | with_reducible exact Gs.refl _ _ | with_reducible refine Gs.alloc ?_ _ | with_reducible refine Gs.drew ?_))).rdD, HB1.out.trans (Gs.to_below (s := s) (Gs.trans HG4.out (Gs.trans HG21.out (by repeat (first | with_reducible exact Gs.refl _ _ | with_reducible refine Gs.alloc ?_ _ | with_reducible refine Gs.drew ?_)))) hs1 hz1)⟩
            · have hi : (n2 : Int) < p9 := by omega
              have hi2 : ¬ (p9 : Int) < n2 := by omega
              have hi3 : ¬ (p9 : Int) ≤ n2 := by omega
              have hi4 : (n2 : Int) ≤ d9 := by omega
              go_wp2
              go_region
              all_goals go_wp2
              all_goals refine bodyPost_ret (res_five rfl _ _ _) rfl ?_
              all_goals exact ⟨A2, n2, c2, rows, (some ⟨gd, 0, none⟩), n2, _, xs.take n2, _, 0, _, _, _, _, r, v, rfl, HN2.out, by omega, HF21_c.out.rows, (HF21_c.out.gs (by repeat (first | with_reducible exact Gs.refl _ _ | with_reducible refine Gs.alloc ?_ _ | with_reducible refine Gs.drew ?_))).rdM, (by rw [List.length_take, HP9.out]; omega), by omega, by omega, ((RdS.take HF21_x.out _).gs (by repeat (first | with_reducible exact Gs.refl _ _ | with_reducible refine Gs.alloc ?_ _ | with_reducible refine Gs.drew ?_))).rd, by omega, (HF21_d.out.gs (by repeat (first | with_reducible exact Gs.refl _ _ | with_reducible refine Gs.alloc ?_ _ | with_reducible refine Gs.drew ?_))).rdD, HB1.out.trans (Gs.to_below (s := s) (Gs.trans HG4.out (Gs.trans HG21.out (by repeat (first | with_reducible exact Gs.refl _ _ | with_reducible refine Gs.alloc ?_ _ | with_reducible refine Gs.drew ?_)))) hs1 hz1)⟩
      · have hm1 : (0 : Int) < m := by omega
        have hm2 : decide ((0 : Int) < m) = true := decide_eq_true hm1
        go_wp2_with fail
        refine (next_any s _ _ (by repeat (first | with_reducible exact HR.out | with_reducible refine Src.alloc ?_ _))).mono ?_
        rintro en w21 ⟨y, rfl, y0, yb, hs, hg⟩
        have HS21 := Lib.hid hs
        have HG21 : Hid (Gs s w4 w21) := Gs.trans (by repeat (first | with_reducible exact HH.out | with_reducible refine Gs.alloc ?_ _)) hg
        have hz21 : w4.heap.size ≤ w21.heap.size := HG21.out.size
        have lq21 : s < w21.heap.size := HS21.out.lt
        have HF21_x : Hid (RdS s w21 A9 xs) := RdS.gs (by repeat (first | with_reducible exact HX20.out | with_reducible refine RdS.alloc ?_ _)) hg
        have HF21_c : Hid (RdMS s w21 A2 rows) := RdMS.gs (by repeat (first | with_reducible exact HC20.out | with_reducible refine RdMS.alloc ?_ _)) hg
        have HF21_d : Hid (RdDS s w21 A5 m f g e) := RdDS.gs (by repeat (first | with_reducible exact HD20.out | with_reducible refine RdDS.alloc ?_ _)) hg
        clear hs hg
        by_cases hy : 0 < y
        · have hy2 : decide (0 < y) = true := decide_eq_true hy
          go_wp2_with fail
          refine (dPulse_any s _ (by repeat (first | with_reducible exact HS21.out | with_reducible refine Src.alloc ?_ _))).mono ?_
          rintro en w22 ⟨pv, ps, rfl, hown, pslen, pl8, hs, hg⟩
          have HS22 := Lib.hid hs
          have HG22 : Hid (Gs s w4 w22) := Gs.trans (by repeat (first | with_reducible exact HG21.out | with_reducible refine Gs.alloc ?_ _)) hg
          have hz22 : w4.heap.size ≤ w22.heap.size := HG22.out.size
          have lq22 : s < w22.heap.size := HS22.out.lt
          have HF22_x : Hid (RdS s w22 A9 xs) := RdS.gs (by repeat (first | with_reducible exact HF21_x.out | with_reducible refine RdS.alloc ?_ _)) hg
          have HF22_c : Hid (RdMS s w22 A2 rows) := RdMS.gs (by repeat (first | with_reducible exact HF21_c.out | with_reducible refine RdMS.alloc ?_ _)) hg
          have HF22_d : Hid (RdDS s w22 A5 m f g e) := RdDS.gs (by repeat (first | with_reducible exact HF21_d.out | with_reducible refine RdDS.alloc ?_ _)) hg
          have HO22_0 := Lib.hid hown
          clear hs hg hown
          obtain ⟨P9, pp, pc, e8, hpp, hpc, _, _⟩ := HO22_0.out.sl
          cases e8
          have hpp8 : pp ≤ 8 := by omega
          have HPP := Lib.hid hpp
          have HP22 : Hid (RdS s w22 P9 ps) := OwnV.rds HO22_0.out lq21
          clear hpp HO22_0
          go_wp2_with fail
          refine (next_any s _ _ (by repeat (first | with_reducible exact HS22.out | with_reducible refine Src.alloc ?_ _))).mono ?_
          rintro en w23 ⟨z, rfl, z0, zb, hs, hg⟩
          have HS23 := Lib.hid hs
          have HG23 : Hid (Gs s w4 w23) := Gs.trans (by repeat (first | with_reducible exact HG22.out | with_reducible refine Gs.alloc ?_ _)) hg
          have hz23 : w4.heap.size ≤ w23.heap.size := HG23.out.size
          have lq23 : s < w23.heap.size := HS23.out.lt
          have HF23_x : Hid (RdS s w23 A9 xs) := RdS.gs (by repeat (first | with_reducible exact HF22_x.out | with_reducible refine RdS.alloc ?_ _)) hg
          have HF23_c : Hid (RdMS s w23 A2 rows) := RdMS.gs (by repeat (first | with_reducible exact HF22_c.out | with_reducible refine RdMS.alloc ?_ _)) hg
          have HF23_d : Hid (RdDS s w23 A5 m f g e) := RdDS.gs (by repeat (first | with_reducible exact HF22_d.out | with_reducible refine RdDS.alloc ?_ _)) hg
          have HF23_p : Hid (RdS s w23 P9 ps) := RdS.gs (by repeat (first | with_reducible exact HP22.out | with_reducible refine RdS.alloc ?_ _)) hg
          clear hs hg
          obtain ⟨kz, rfl⟩ : ∃ k : Nat, z = k := ⟨z.toNat, by omega⟩
          have hkz : kz < m := by omega
          have hkz2 : (kz : Int) < m := by omega
          have hkz3 : (0 : Int) ≤ kz := by omega
          rcases HF23_d.out with h0 | ⟨b5, o5, hA5, hb5, hcs⟩
          · exfalso; omega
          subst hA5
          obtain ⟨cx, cy, cz⟩ := hcs kz hkz
          obtain ⟨fx, hfx⟩ : ∃ x, x = f kz := ⟨_, rfl⟩
          obtain ⟨gx, hgx⟩ : ∃ x, x = g kz := ⟨_, rfl⟩
          obtain ⟨ex, hex⟩ : ∃ x, x = e kz := ⟨_, rfl⟩
          rw [← hfx] at cx
          rw [← hgx] at cy
          rw [← hex] at cz
          clear hfx hgx hex hcs
          go_wp2_with fail
          refine (sPw_any P9 pp pc ps A9 p9 d9 xs fx gx ex r v 60 140 _ HPP.out hpc (by omega) HF23_p.out.rd HP9.out hpd9 (by omega) HF23_x.out.rd).mono ?_
          rintro en w24 ⟨Aw, cw, rfl, hR, hb⟩
          clear cx cy cz
          have hg : Gs s w23 w24 := Gs.of_below hb
          have hs := Src.low HS23.out hb lq23
          have hrm := hR.rdMS (s := s) lq23 (fun k => Nat.le_trans pwVal_row (by omega))
          have hcl := hR.2.1
          have hnx : (pwVal ps xs fx gx ex r v 60 140).length ≤ 12 := pwVal_len
          have HS24 := Lib.hid hs
          have HG24 : Hid (Gs s w4 w24) := Gs.trans (by repeat (first | with_reducible exact HG23.out | with_reducible refine Gs.alloc ?_ _)) hg
          have hz24 : w4.heap.size ≤ w24.heap.size := HG24.out.size
          have lq24 : s < w24.heap.size := HS24.out.lt
          have HF24_x : Hid (RdS s w24 A9 xs) := RdS.gs (by repeat (first | with_reducible exact HF23_x.out | with_reducible refine RdS.alloc ?_ _)) hg
          have HF24_c : Hid (RdMS s w24 A2 rows) := RdMS.gs (by repeat (first | with_reducible exact HF23_c.out | with_reducible refine RdMS.alloc ?_ _)) hg
          have HF24_d : Hid (RdDS s w24 (some ⟨b5, o5, none⟩) m f g e) := RdDS.gs (by repeat (first | with_reducible exact HF23_d.out | with_reducible refine RdDS.alloc ?_ _)) hg
          have HF24_p : Hid (RdS s w24 P9 ps) := RdS.gs (by repeat (first | with_reducible exact HF23_p.out | with_reducible refine RdS.alloc ?_ _)) hg
          obtain ⟨WC, hWC⟩ : ∃ c, c = pwCode ps xs fx gx ex r v 60 140 := ⟨_, rfl⟩
          obtain ⟨X, hX⟩ : ∃ X, X = pwVal ps xs fx gx ex r v 60 140 := ⟨_, rfl⟩
          rw [← hX] at hrm hcl hnx ⊢
          rw [← hWC]
          clear hX hWC hR
          obtain ⟨NX, hNX⟩ : ∃ NX, NX = X.length := ⟨_, rfl⟩
          rw [← hNX] at hcl hnx ⊢
          have HNX := Lib.hid hNX.symm
          have HW24 := Lib.hid hrm
          clear hNX hrm hs hg hb
          by_cases h0 : WC = 0
          · subst h0
            go_wp2_with fail
            refine (next_any s _ _ (by repeat (first | with_reducible exact HS24.out | with_reducible refine Src.alloc ?_ _))).mono ?_
            rintro en w25 ⟨k40, rfl, k400, k40b, hs, hg⟩
            have HS25 := Lib.hid hs
            have HG25 : Hid (Gs s w4 w25) := Gs.trans (by repeat (first | with_reducible exact HG24.out | with_reducible refine Gs.alloc ?_ _)) hg
            have hz25 : w4.heap.size ≤ w25.heap.size := HG25.out.size
            have lq25 : s < w25.heap.size := HS25.out.lt
            have HF25_x : Hid (RdS s w25 A9 xs) := RdS.gs (by repeat (first | with_reducible exact HF24_x.out | with_reducible refine RdS.alloc ?_ _)) hg
            have HF25_c : Hid (RdMS s w25 A2 rows) := RdMS.gs (by repeat (first | with_reducible exact HF24_c.out | with_reducible refine RdMS.alloc ?_ _)) hg
            have HF25_d : Hid (RdDS s w25 (some ⟨b5, o5, none⟩) m f g e) := RdDS.gs (by repeat (first | with_reducible exact HF24_d.out | with_reducible refine RdDS.alloc ?_ _)) hg
            have HF25_p : Hid (RdS s w25 P9 ps) := RdS.gs (by repeat (first | with_reducible exact HF24_p.out | with_reducible refine RdS.alloc ?_ _)) hg
            have HF25_w : Hid (RdMS s w25 Aw X) := RdMS.gs (by repeat (first | with_reducible exact HW24.out | with_reducible refine RdMS.alloc ?_ _)) hg
            clear hs hg
            by_cases e0 : k40 = 0
            · have f0 : (k40 == 0) = true := by simpa using e0
              clear e0
              have hmk : ∀ w : World, (Instr.makeSlice 35 (.int .i64 41) (.int .i64 41)).run Try.prog w = .ok (.slice (some ⟨w.heap.size, 0, none⟩) 41 41) (w.alloc (.cells (madeCells #[.int .i64 0, .int .i64 0, .int .i64 0] (41 * 3)) 42)) := mk_trips 41 (by omega)
              go_wp2
              go_region
              all_goals go_wp2
              all_goals refine bodyPost_ret (res_five rfl _ _ _) rfl ?_
              all_goals exact ⟨Aw, NX, cw, X, A9, p9, d9, xs, _, 41, 41, _, _, _, r, v, rfl, HNX.out, by omega, HF25_w.out.rows, (HF25_w.out.gs (by repeat (first | with_reducible exact Gs.refl _ _ | with_reducible refine Gs.alloc ?_ _ | with_reducible refine Gs.drew ?_))).rdM, HP9.out, hpd9, hp8, (HF25_x.out.gs (by repeat (first | with_reducible exact Gs.refl _ _ | with_reducible refine Gs.alloc ?_ _ | with_reducible refine Gs.drew ?_))).rd, by omega, (trips_zero _ _ 41 (fun _ => 0) (fun _ => 0) (fun _ => 0)).rd, HB1.out.trans (Gs.to_below (s := s) (Gs.trans HG4.out (Gs.trans HG25.out (by repeat (first | with_reducible exact Gs.refl _ _ | with_reducible refine Gs.alloc ?_ _ | with_reducible refine Gs.drew ?_)))) hs1 hz1)⟩
            · have f0 : (k40 == 0) = false := by simpa using e0
              clear e0
              rcases HRR.out with hA | ⟨gd, hA⟩
              · subst hA
                have hcz := HA0.out rfl
                obtain ⟨rfl, rfl⟩ := hcz
                have hn0 : (0 : Int) ≤ NX := by omega
                have hn9 : ¬ (NX : Int) < 0 := by omega
                go_wp2
                go_region
                all_goals go_wp2
                all_goals refine bodyPost_ret (res_five rfl _ _ _) rfl ?_
                all_goals exact ⟨Aw, NX, cw, X, none, 0, _, xs.take 0, _, m, _, _, _, _, r, v, rfl, HNX.out, by omega, HF25_w.out.rows, (HF25_w.out.gs (by repeat (first | with_reducible exact Gs.refl _ _ | with_reducible refine Gs.alloc ?_ _ | with_reducible refine Gs.drew ?_))).rdM, (by rw [List.length_take, HP9.out]; omega), by omega, by omega, ((RdS.take HF25_x.out _).gs (by repeat (first | with_reducible exact Gs.refl _ _ | with_reducible refine Gs.alloc ?_ _ | with_reducible refine Gs.drew ?_))).rd, by omega, (HF25_d.out.gs (by repeat (first | with_reducible exact Gs.refl _ _ | with_reducible refine Gs.alloc ?_ _ | with_reducible refine Gs.drew ?_))).rdD, HB1.out.trans (Gs.to_below (s := s) (Gs.trans HG4.out (Gs.trans HG25.out (by repeat (first | with_reducible exact Gs.refl _ _ | with_reducible refine Gs.alloc ?_ _ | with_reducible refine Gs.drew ?_)))) hs1 hz1)⟩
              · subst hA
                rcases Nat.lt_trichotomy p9 NX with h | h | h
                · have hi : (p9 : Int) < NX := by omega
                  have hi2 : ¬ (NX : Int) < p9 := by omega
                  have hi3 : (p9 : Int) ≤ NX := by omega
                  have hi4 : (p9 : Int) ≤ d9 := by omega
                  go_wp2
                  go_region
                  all_goals go_wp2
                  all_goals refine bodyPost_ret (res_five rfl _ _ _) rfl ?_
                  all_goals exact ⟨Aw, NX, cw, X, (some ⟨gd, 0, none⟩), p9, _, xs.take p9, _, m, _, _, _, _, r, v, rfl, HNX.out, by omega, HF25_w.out.rows, (HF25_w.out.gs (by repeat (first | with_reducible exact Gs.refl _ _ | with_reducible refine Gs.alloc ?_ _ | with_reducible refine Gs.drew ?_))).rdM, (by rw [List.length_take, HP9.out]; omega), by omega, by omega, ((RdS.take HF25_x.out _).gs (by repeat (first | with_reducible exact Gs.refl _ _ | with_reducible refine Gs.alloc ?_ _ | with_reducible refine Gs.drew ?_))).rd, by omega, (HF25_d.out.gs (by repeat (first | with_reducible exact Gs.refl _ _ | with_reducible refine Gs.alloc ?_ _ | with_reducible refine Gs.drew ?_))).rdD, HB1.out.trans (Gs.to_below (s := s) (Gs.trans HG4.out (Gs.trans HG25.out (by repeat (first | with_reducible exact Gs.refl _ _ | with_reducible refine Gs.alloc ?_ _ | with_reducible refine Gs.drew ?_)))) hs1 hz1)⟩
                · have hpn : (p9 : Int) = NX := by omega
                  have hi4 : (NX : Int) ≤ d9 := by omega
                  have hi5 : (p9 : Int) ≤ d9 := by omega
                  go_wp2
                  go_region
                  all_goals go_wp2
                  all_goals refine bodyPost_ret (res_five rfl _ _ _) rfl ?_
                  all_goals exact ⟨Aw, NX, cw, X, (some ⟨gd, 0, none⟩), NX, _, xs.take NX, _, m, _, _, _, _, r, v, rfl, HNX.out, by omega, HF25_w.out.rows, (HF25_w.out.gs (by repeat (first | with_reducible exact Gs.refl _ _ | with_reducible refine Gs.alloc ?_ _ | with_reducible refine Gs.drew ?_))).rdM, (by rw [List.length_take, HP9.out]; omega), by omega, by omega, ((RdS.take HF25_x.out _).gs (by repeat (first | with_reducible exact Gs.refl _ _ | with_reducible refine Gs.alloc ?_ _ | with_reducible refine Gs.drew ?_))).rd, by omega, (HF25_d.out.gs (by repeat (first | with_reducible exact Gs.refl _ _ | with_reducible refine Gs.alloc ?_ _ | with_reducible refine Gs.drew ?_))).rdD, HB1.out.trans (Gs.to_below (s := s) (Gs.trans HG4.out (Gs.trans HG25.out (by repeat (first | with_reducible exact Gs.refl _ _ | with_reducible refine Gs.alloc ?_ _ | with_reducible refine Gs.drew ?_)))) hs1 hz1)⟩
                · have hi : (NX : Int) < p9 := by omega
                  have hi2 : ¬ (p9 : Int) < NX := by omega
                  have hi3 : ¬ (p9 : Int) ≤ NX := by omega
                  have hi4 : (NX : Int) ≤ d9 := by omega
                  go_wp2
                  go_region
                  all_goals go_wp2
                  all_goals refine bodyPost_ret (res_five rfl _ _ _) rfl ?_
                  all_goals exact ⟨Aw, NX, cw, X, (some ⟨gd, 0, none⟩), NX, _, xs.take NX, _, m, _, _, _, _, r, v, rfl, HNX.out, by omega, HF25_w.out.rows, (HF25_w.out.gs (by repeat (first | with_reducible exact Gs.refl _ _ | with_reducible refine Gs.alloc ?_ _ | with_reducible refine Gs.drew ?_))).rdM, (by rw [List.length_take, HP9.out]; omega), by omega, by omega, ((RdS.take HF25_x.out _).gs (by repeat (first | with_reducible exact Gs.refl _ _ | with_reducible refine Gs.alloc ?_ _ | with_reducible refine Gs.drew ?_))).rd, by omega, (HF25_d.out.gs (by repeat (first | with_reducible exact Gs.refl _ _ | with_reducible refine Gs.alloc ?_ _ | with_reducible refine Gs.drew ?_))).rdD, HB1.out.trans (Gs.to_below (s := s) (Gs.trans HG4.out (Gs.trans HG25.out (by repeat (first | with_reducible exact Gs.refl _ _ | with_reducible refine Gs.alloc ?_ _ | with_reducible refine Gs.drew ?_)))) hs1 hz1)⟩
          · have hz9 : (WC == 0) = false := by simpa using h0
            go_wp2_with fail
            refine (next_any s _ _ (by repeat (first | with_reducible exact HS24.out | with_reducible refine Src.alloc ?_ _))).mono ?_
            rintro en w25 ⟨k40, rfl, k400, k40b, hs, hg⟩
            have HS25 := Lib.hid hs
            have HG25 : Hid (Gs s w4 w25) := Gs.trans (by repeat (first | with_reducible exact HG24.out | with_reducible refine Gs.alloc ?_ _)) hg
            have hz25 : w4.heap.size ≤ w25.heap.size := HG25.out.size
            have lq25 : s < w25.heap.size := HS25.out.lt
            have HF25_x : Hid (RdS s w25 A9 xs) := RdS.gs (by repeat (first | with_reducible exact HF24_x.out | with_reducible refine RdS.alloc ?_ _)) hg
            have HF25_c : Hid (RdMS s w25 A2 rows) := RdMS.gs (by repeat (first | with_reducible exact HF24_c.out | with_reducible refine RdMS.alloc ?_ _)) hg
            have HF25_d : Hid (RdDS s w25 (some ⟨b5, o5, none⟩) m f g e) := RdDS.gs (by repeat (first | with_reducible exact HF24_d.out | with_reducible refine RdDS.alloc ?_ _)) hg
            have HF25_p : Hid (RdS s w25 P9 ps) := RdS.gs (by repeat (first | with_reducible exact HF24_p.out | with_reducible refine RdS.alloc ?_ _)) hg
            have HF25_w : Hid (RdMS s w25 Aw X) := RdMS.gs (by repeat (first | with_reducible exact HW24.out | with_reducible refine RdMS.alloc ?_ _)) hg
            clear hs hg
            by_cases e0 : k40 = 0
            · have f0 : (k40 == 0) = true := by simpa using e0
              clear e0
              have hmk : ∀ w : World, (Instr.makeSlice 35 (.int .i64 41) (.int .i64 41)).run Try.prog w = .ok (.slice (some ⟨w.heap.size, 0, none⟩) 41 41) (w.alloc (.cells (madeCells #[.int .i64 0, .int .i64 0, .int .i64 0] (41 * 3)) 42)) := mk_trips 41 (by omega)
              go_wp2
              go_region
              all_goals go_wp2
              all_goals refine bodyPost_ret (res_five rfl _ _ _) rfl ?_
              all_goals exact ⟨A2, n2, c2, rows, A9, p9, d9, xs, _, 41, 41, _, _, _, r, v, rfl, HN2.out, by omega, HF25_c.out.rows, (HF25_c.out.gs (by repeat (first | with_reducible exact Gs.refl _ _ | with_reducible refine Gs.alloc ?_ _ | with_reducible refine Gs.drew ?_))).rdM, HP9.out, hpd9, hp8, (HF25_x.out.gs (by repeat (first | with_reducible exact Gs.refl _ _ | with_reducible refine Gs.alloc ?_ _ | with_reducible refine Gs.drew ?_))).rd, by omega, (trips_zero _ _ 41 (fun _ => 0) (fun _ => 0) (fun _ => 0)).rd, HB1.out.trans (Gs.to_below (s := s) (Gs.trans HG4.out (Gs.trans HG25.out (by repeat (first | with_reducible exact Gs.refl _ _ | with_reducible refine Gs.alloc ?_ _ | with_reducible refine Gs.drew ?_)))) hs1 hz1)⟩
            · have f0 : (k40 == 0) = false := by simpa using e0
              clear e0
              rcases HRR.out with hA | ⟨gd, hA⟩
              · subst hA
                have hcz := HA0.out rfl
                obtain ⟨rfl, rfl⟩ := hcz
                have hn0 : (0 : Int) ≤ n2 := by omega
                have hn9 : ¬ (n2 : Int) < 0 := by omega
                go_wp2
                go_region
                all_goals go_wp2
                all_goals refine bodyPost_ret (res_five rfl _ _ _) rfl ?_
                all_goals exact ⟨A2, n2, c2, rows, none, 0, _, xs.take 0, _, m, _, _, _, _, r, v, rfl, HN2.out, by omega, HF25_c.out.rows, (HF25_c.out.gs (by repeat (first | with_reducible exact Gs.refl _ _ | with_reducible refine Gs.alloc ?_ _ | with_reducible refine Gs.drew ?_))).rdM, (by rw [List.length_take, HP9.out]; omega), by omega, by omega, ((RdS.take HF25_x.out _).gs (by repeat (first | with_reducible exact Gs.refl _ _ | with_reducible refine Gs.alloc ?_ _ | with_reducible refine Gs.drew ?_))).rd, by omega, (HF25_d.out.gs (by repeat (first | with_reducible exact Gs.refl _ _ | with_reducible refine Gs.alloc ?_ _ | with_reducible refine Gs.drew ?_))).rdD, HB1.out.trans (Gs.to_below (s := s) (Gs.trans HG4.out (Gs.trans HG25.out (by repeat (first | with_reducible exact Gs.refl _ _ | with_reducible refine Gs.alloc ?_ _ | with_reducible refine Gs.drew ?_)))) hs1 hz1)⟩
              · subst hA
                rcases Nat.lt_trichotomy p9 n2 with h | h | h
                · have hi : (p9 : Int) < n2 := by omega
                  have hi2 : ¬ (n2 : Int) < p9 := by omega
                  have hi3 : (p9 : Int) ≤ n2 := by omega
                  have hi4 : (p9 : Int) ≤ d9 := by omega
                  go_wp2
                  go_region
                  all_goals go_wp2
                  all_goals refine bodyPost_ret (res_five rfl _ _ _) rfl ?_
                  all_goals exact ⟨A2, n2, c2, rows, (some ⟨gd, 0, none⟩), p9, _, xs.take p9, _, m, _, _, _, _, r, v, rfl, HN2.out, by omega, HF25_c.out.rows, (HF25_c.out.gs (by repeat (first | with_reducible exact Gs.refl _ _ | with_reducible refine Gs.alloc ?_ _ | with_reducible refine Gs.drew ?_))).rdM, (by rw [List.length_take, HP9.out]; omega), by omega, by omega, ((RdS.take HF25_x.out _).gs (by repeat (first | with_reducible exact Gs.refl _ _ | with_reducible refine Gs.alloc ?_ _ | with_reducible refine Gs.drew ?_))).rd, by omega, (HF25_d.out.gs (by repeat (first | with_reducible exact Gs.refl _ _ | with_reducible refine Gs.alloc ?_ _ | with_reducible refine Gs.drew ?_))).rdD, HB1.out.trans (Gs.to_below (s := s) (Gs.trans HG4.out (Gs.trans HG25.out (by repeat (first | with_reducible exact Gs.refl _ _ | with_reducible refine Gs.alloc ?_ _ | with_reducible refine Gs.drew ?_)))) hs1 hz1)⟩
                · have hpn : (p9 : Int) = n2 := by omega
                  have hi4 : (n2 : Int) ≤ d9 := by omega
                  have hi5 : (p9 : Int) ≤ d9 := by omega
                  go_wp2
                  go_region
                  all_goals go_wp2
                  all_goals refine bodyPost_ret (res_five rfl _ _ _) rfl ?_
                  all_goals exact ⟨A2, n2, c2, rows, (some ⟨gd, 0, none⟩), n2, _, xs.take n2, _, m, _, _, _, _, r, v, rfl, HN2.out, by omega, HF25_c.out.rows, (HF25_c.out.gs (by repeat (first | with_reducible exact Gs.refl _ _ | with_reducible refine Gs.alloc ?_ _ | with_reducible refine Gs.drew ?_))).rdM, (by rw [List.length_take, HP9.out]; omega), by omega, by omega, ((RdS.take HF25_x.out _).gs (by repeat (first | with_reducible exact Gs.refl _ _ | with_reducible refine Gs.alloc ?_ _ | with_reducible refine Gs.drew ?_))).rd, by omega, (HF25_d.out.gs (by repeat (first | with_reducible exact Gs.refl _ _ | with_reducible refine Gs.alloc ?_ _ | with_reducible refine Gs.drew ?_))).rdD, HB1.out.trans (Gs.to_below (s := s) (Gs.trans HG4.out (Gs.trans HG25.out (by repeat (first | with_reducible exact Gs.refl _ _ | with_reducible refine Gs.alloc ?_ _ | with_reducible refine Gs.drew ?_)))) hs1 hz1)⟩
                · have hi : (n2 : Int) < p9 := by omega
                  have hi2 : ¬ (p9 : Int) < n2 := by omega
                  have hi3 : ¬ (p9 : Int) ≤ n2 := by omega
                  have hi4 : (n2 : Int) ≤ d9 := by omega
                  go_wp2
                  go_region
                  all_goals go_wp2
                  all_goals refine bodyPost_ret (res_five rfl _ _ _) rfl ?_
                  all_goals exact ⟨A2, n2, c2, rows, (some ⟨gd, 0, none⟩), n2, _, xs.take n2, _, m, _, _, _, _, r, v, rfl, HN2.out, by omega, HF25_c.out.rows, (HF25_c.out.gs (by repeat (first | with_reducible exact Gs.refl _ _ | with_reducible refine Gs.alloc ?_ _ | with_reducible refine Gs.drew ?_))).rdM, (by rw [List.length_take, HP9.out]; omega), by omega, by omega, ((RdS.take HF25_x.out _).gs (by repeat (first | with_reducible exact Gs.refl _ _ | with_reducible refine Gs.alloc ?_ _ | with_reducible refine Gs.drew ?_))).rd, by omega, (HF25_d.out.gs (by repeat (first | with_reducible exact Gs.refl _ _ | with_reducible refine Gs.alloc ?_ _ | with_reducible refine Gs.drew ?_))).rdD, HB1.out.trans (Gs.to_below (s := s) (Gs.trans HG4.out (Gs.trans HG25.out (by repeat (first | with_reducible exact Gs.refl _ _ | with_reducible refine Gs.alloc ?_ _ | with_reducible refine Gs.drew ?_)))) hs1 hz1)⟩
        · have hy2 : decide (0 < y) = false := decide_eq_false hy
          go_wp2_with fail
          refine (next_any s _ _ (by repeat (first | with_reducible exact HS21.out | with_reducible refine Src.alloc ?_ _))).mono ?_
          rintro en w22 ⟨k40, rfl, k400, k40b, hs, hg⟩
          have HS22 := Lib.hid hs
          have HG22 : Hid (Gs s w4 w22) := Gs.trans (by repeat (first | with_reducible exact HG21.out | with_reducible refine Gs.alloc ?_ _)) hg
          have hz22 : w4.heap.size ≤ w22.heap.size := HG22.out.size
          have lq22 : s < w22.heap.size := HS22.out.lt
          have HF22_x : Hid (RdS s w22 A9 xs) := RdS.gs (by repeat (first | with_reducible exact HF21_x.out | with_reducible refine RdS.alloc ?_ _)) hg
          have HF22_c : Hid (RdMS s w22 A2 rows) := RdMS.gs (by repeat (first | with_reducible exact HF21_c.out | with_reducible refine RdMS.alloc ?_ _)) hg
          have HF22_d : Hid (RdDS s w22 A5 m f g e) := RdDS.gs (by repeat (first | with_reducible exact HF21_d.out | with_reducible refine RdDS.alloc ?_ _)) hg
          clear hs hg
          by_cases e0 : k40 = 0
          · have f0 : (k40 == 0) = true := by simpa using e0
            clear e0
            have hmk : ∀ w : World, (Instr.makeSlice 35 (.int .i64 41) (.int .i64 41)).run Try.prog w = .ok (.slice (some ⟨w.heap.size, 0, none⟩) 41 41) (w.alloc (.cells (madeCells #[.int .i64 0, .int .i64 0, .int .i64 0] (41 * 3)) 42)) := mk_trips 41 (by omega)
            go_wp2
            go_region
            all_goals go_wp2
            all_goals refine bodyPost_ret (res_five rfl _ _ _) rfl ?_
            all_goals exact ⟨A2, n2, c2, rows, A9, p9, d9, xs, _, 41, 41, _, _, _, r, v, rfl, HN2.out, by omega, HF22_c.out.rows, (HF22_c.out.gs (by repeat (first | with_reducible exact Gs.refl _ _ | with_reducible refine Gs.alloc ?_ _ | with_reducible refine Gs.drew ?_))).rdM, HP9.out, hpd9, hp8, (HF22_x.out.gs (by repeat (first | with_reducible exact Gs.refl _ _ | with_reducible refine Gs.alloc ?_ _ | with_reducible refine Gs.drew ?_))).rd, by omega, (trips_zero _ _ 41 (fun _ => 0) (fun _ => 0) (fun _ => 0)).rd, HB1.out.trans (Gs.to_below (s := s) (Gs.trans HG4.out (Gs.trans HG22.out (by repeat (first | with_reducible exact Gs.refl _ _ | with_reducible refine Gs.alloc ?_ _ | with_reducible refine Gs.drew ?_)))) hs1 hz1)⟩
          · have f0 : (k40 == 0) = false := by simpa using e0
            clear e0
            rcases HRR.out with hA | ⟨gd, hA⟩
            · subst hA
              have hcz := HA0.out rfl
              obtain ⟨rfl, rfl⟩ := hcz
              have hn0 : (0 : Int) ≤ n2 := by omega
              have hn9 : ¬ (n2 : Int) < 0 := by omega
              go_wp2
              go_region
              all_goals go_wp2
              all_goals refine bodyPost_ret (res_five rfl _ _ _) rfl ?_
              all_goals exact ⟨A2, n2, c2, rows, none, 0, _, xs.take 0, _, m, _, _, _, _, r, v, rfl, HN2.out, by omega, HF22_c.out.rows, (HF22_c.out.gs (by repeat (first | with_reducible exact Gs.refl _ _ | with_reducible refine Gs.alloc ?_ _ | with_reducible refine Gs.drew ?_))).rdM, (by rw [List.length_take, HP9.out]; omega), by omega, by omega, ((RdS.take HF22_x.out _).gs (by repeat (first | with_reducible exact Gs.refl _ _ | with_reducible refine Gs.alloc ?_ _ | with_reducible refine Gs.drew ?_))).rd, by omega, (HF22_d.out.gs (by repeat (first | with_reducible exact Gs.refl _ _ | with_reducible refine Gs.alloc ?_ _ | with_reducible refine Gs.drew ?_))).rdD, HB1.out.trans (Gs.to_below (s := s) (Gs.trans HG4.out (Gs.trans HG22.out (by repeat (first | with_reducible exact Gs.refl _ _ | with_reducible refine Gs.alloc ?_ _ | with_reducible refine Gs.drew ?_)))) hs1 hz1)⟩
            · subst hA
              rcases Nat.lt_trichotomy p9 n2 with h | h | h
              · have hi : (p9 : Int) < n2 := by omega
                have hi2 : ¬ (n2 : Int) < p9 := by omega
                have hi3 : (p9 : Int) ≤ n2 := by omega
                have hi4 : (p9 : Int) ≤ d9 := by omega
                go_wp2
                go_region
                all_goals go_wp2
                all_goals refine bodyPost_ret (res_five rfl _ _ _) rfl ?_
                all_goals exact ⟨A2, n2, c2, rows, (some ⟨gd, 0, none⟩), p9, _, xs.take p9, _, m, _, _, _, _, r, v, rfl, HN2.out, by omega, HF22_c.out.rows, (HF22_c.out.gs (by repeat (first | with_reducible exact Gs.refl _ _ | with_reducible refine Gs.alloc ?_ _ | with_reducible refine Gs.drew ?_))).rdM, (by rw [List.length_take, HP9.out]; omega), by omega, by omega, ((RdS.take HF22_x.out _).gs (by repeat (first | with_reducible exact Gs.refl _ _ | with_reducible refine Gs.alloc ?_ _ | with_reducible refine Gs.drew ?_))).rd, by omega, (HF22_d.out.gs (by repeat (first | with_reducible exact Gs.refl _ _ | with_reducible refine Gs.alloc ?_ _ | with_reducible refine Gs.drew ?_))).rdD, HB1.out.trans (Gs.to_below (s := s) (Gs.trans HG4.out (Gs.trans HG22.out (by repeat (first | with_reducible exact Gs.refl _ _ | with_reducible refine Gs.alloc ?_ _ | with_reducible refine Gs.drew ?_)))) hs1 hz1)⟩
              · have hpn : (p9 : Int) = n2 := by omega
                have hi4 : (n2 : Int) ≤ d9 := by omega
                have hi5 : (p9 : Int) ≤ d9 := by omega
                go_wp2
                go_region
                all_goals go_wp2
                all_goals refine bodyPost_ret (res_five rfl _ _ _) rfl ?_
                all_goals exact ⟨A2, n2, c2, rows, (some ⟨gd, 0, none⟩), n2, _, xs.take n2, _, m, _, _, _, _, r, v, rfl, HN2.out, by omega, HF22_c.out.rows, (HF22_c.out.gs (by repeat (first | with_reducible exact Gs.refl _ _ | with_reducible refine Gs.alloc ?_ _ | with_reducible refine Gs.drew ?_))).rdM, (by rw [List.length_take, HP9.out]; omega), by omega, by omega, ((RdS.take HF22_x.out _).gs (by repeat (first | with_reducible exact Gs.refl _ _ | with_reducible refine Gs.alloc ?_ _ | with_reducible refine Gs.drew ?_))).rd, by omega, (HF22_d.out.gs (by repeat (first | with_reducible exact Gs.refl _ _ | with_reducible refine Gs.alloc ?_ _ | with_reducible refine Gs.drew ?_))).rdD, HB1.out.trans (Gs.to_below (s := s) (Gs.trans HG4.out (Gs.trans HG22.out (by repeat (first | with_reducible exact Gs.refl _ _ | with_reducible refine Gs.alloc ?_ _ | with_reducible refine Gs.drew ?_)))) hs1 hz1)⟩
              · have hi : (n2 : Int) < p9 := by omega
                have hi2 : ¬ (p9 : Int) < n2 := by omega
                have hi3 : ¬ (p9 : Int) ≤ n2 := by omega
                have hi4 : (n2 : Int) ≤ d9 := by omega
                go_wp2
                go_region
                all_goals go_wp2
                all_goals refine bodyPost_ret (res_five rfl _ _ _) rfl ?_
                all_goals exact ⟨A2, n2, c2, rows, (some ⟨gd, 0, none⟩), n2, _, xs.take n2, _, m, _, _, _, _, r, v, rfl, HN2.out, by omega, HF22_c.out.rows, (HF22_c.out.gs (by repeat (first | with_reducible exact Gs.refl _ _ | with_reducible refine Gs.alloc ?_ _ | with_reducible refine Gs.drew ?_))).rdM, (by rw [List.length_take, HP9.out]; omega), by omega, by omega, ((RdS.take HF22_x.out _).gs (by repeat (first | with_reducible exact Gs.refl _ _ | with_reducible refine Gs.alloc ?_ _ | with_reducible refine Gs.drew ?_))).rd, by omega, (HF22_d.out.gs (by repeat (first | with_reducible exact Gs.refl _ _ | with_reducible refine Gs.alloc ?_ _ | with_reducible refine Gs.drew ?_))).rdD, HB1.out.trans (Gs.to_below (s := s) (Gs.trans HG4.out (Gs.trans HG22.out (by repeat (first | with_reducible exact Gs.refl _ _ | with_reducible refine Gs.alloc ?_ _ | with_reducible refine Gs.drew ?_)))) hs1 hz1)⟩
    | succ j =>
      have hj : (0 : Int) < ((j + 1 : Nat) : Int) := by omega
      go_wp2_with fail
      refine (dDir_any s _ (by repeat (first | with_reducible exact HR.out | with_reducible refine Src.alloc ?_ _))).mono ?_
      rintro en w11 ⟨c1, s1, h1, rfl, hs, hg⟩
      have HS11 := Lib.hid hs
      have HG11 : Hid (Gs s w4 w11) := Gs.trans (by repeat (first | with_reducible exact HH.out | with_reducible refine Gs.alloc ?_ _)) hg
      have hz11 : w4.heap.size ≤ w11.heap.size := HG11.out.size
      have lq11 : s < w11.heap.size := HS11.out.lt
      have HF11_d : Hid (DrM w11 w4.heap.size u12 m ts) := DrM.gs (by repeat (first | with_reducible exact HDM.out | with_reducible refine DrM.alloc ?_ _)) hg lq4
      clear hs hg
      go_wp2_with (at_builtin; refine app_dr rfl _ _ rfl w4.heap.size _ m ts rfl (DrM.alloc HF11_d.out _) c1 s1 h1 _ rfl (BoxW.new _ _ _ _ _).1 (by omega) (by simp only [World.size_alloc]; omega) ?_; intro g cap wn hown hb)
      have HSN := Lib.hid (Src.low (Src.alloc HS11.out _) hb lq4)
      have HGN : Hid (Gs s w4 wn) := Gs.then (Gs.alloc HG11.out _) hb
      have HDN := Lib.hid hown
      clear hown hb
      go_roundw
      case rel => exact ⟨j, m + 1, ts ++ [c1, s1, h1], by go_num, by omega, HDN, HSN, HGN⟩
      case measure => simp [intOf]
end Go.Proofs.Ytfmhbphbgdijpaa
