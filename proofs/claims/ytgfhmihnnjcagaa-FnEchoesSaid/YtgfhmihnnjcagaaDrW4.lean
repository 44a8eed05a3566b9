/- walks: traces drawn -/
import Derived.Test.YtgfhmihnnjcagaaDrW3
set_option linter.unusedVariables false
set_option linter.unusedSimpArgs false
namespace Go.Proofs.Ytgfhmihnnjcagaa
open Go.RowKit
def IntPost (s : Nat) (w : World) (en : Ending) (w9 : World) : Prop := ∃ x : Int, en = .returned (.int .i64 x) ∧ Src w9 s ∧ Gs s w w9
set_option maxRecDepth 100000 in
set_option maxHeartbeats 8000000 in
theorem dVal_any (s : Nat) (w : World) (h : Src w s) : Calls Try.prog 120 #[.pointer (some ⟨s, 0, none⟩)] w (IntPost s w) := by
  have ls0 := h.lt
  go_enter Try.func120, Try.ntmps120
  go_wp2_with fail
  refine (next_any s _ _ (by repeat (first | with_reducible exact h | with_reducible refine Src.alloc ?_ _))).mono ?_
  rintro en w1 ⟨k, rfl, k0, kb, hs, hg⟩
  have HS1 := Lib.hid hs
  have HG1 : Hid (Gs s w w1) := Gs.trans (by repeat (first | with_reducible exact (Gs.refl s w) | with_reducible refine Gs.alloc ?_ _)) hg
  have hz1 : w.heap.size ≤ w1.heap.size := HG1.out.size
  have lq1 : s < w1.heap.size := HS1.out.lt
  clear hs hg
  by_cases e0 : k = 0
  · have f0 : (k == 0) = true := by simpa using e0
    clear e0
    go_wp2_with fail
    refine (pick_any s _ 6 6 [1000000000000, 1000000000001, (-1000000000000), (-1000000000001), 9223372036854775807, (-9223372036854775808)] _ (by repeat (first | with_reducible exact HS1.out | with_reducible refine Src.alloc ?_ _)) rfl (by decide) (by decide) (Rd.new2 _ _ [1000000000000, 1000000000001, (-1000000000000), (-1000000000001), 9223372036854775807, (-9223372036854775808)] (by first | (simp only [World.size_alloc]; done) | (go_size; done))) (fun b off e => by cases e; omega)).mono ?_
    rintro en w2 ⟨x, rfl, xm, hs, hg⟩
    have HS2 := Lib.hid hs
    have HG2 : Hid (Gs s w w2) := Gs.trans (by repeat (first | with_reducible exact HG1.out | with_reducible refine Gs.alloc ?_ _)) hg
    have hz2 : w.heap.size ≤ w2.heap.size := HG2.out.size
    have lq2 : s < w2.heap.size := HS2.out.lt
    clear hs hg
    go_wp2
    go_ret
    exact ⟨_, rfl, (by repeat (first | with_reducible exact HS2.out | with_reducible refine Src.alloc ?_ _)), (by repeat (first | with_reducible exact HG2.out | with_reducible refine Gs.alloc ?_ _))⟩
  · have f0 : (k == 0) = false := by simpa using e0
    clear e0
    by_cases e1 : k = 1
    · have f1 : (k == 1) = true := by simpa using e1
      clear e1
      go_wp2_with fail
      refine (next_any s _ _ (by repeat (first | with_reducible exact HS1.out | with_reducible refine Src.alloc ?_ _))).mono ?_
      rintro en w2 ⟨x, rfl, x0, xb, hs, hg⟩
      have HS2 := Lib.hid hs
      have HG2 : Hid (Gs s w w2) := Gs.trans (by repeat (first | with_reducible exact HG1.out | with_reducible refine Gs.alloc ?_ _)) hg
      have hz2 : w.heap.size ≤ w2.heap.size := HG2.out.size
      have lq2 : s < w2.heap.size := HS2.out.lt
      clear hs hg
      go_wp2_with fail
      refine (next_any s _ _ (by repeat (first | with_reducible exact HS2.out | with_reducible refine Src.alloc ?_ _))).mono ?_
      rintro en w3 ⟨y, rfl, y0, yb, hs, hg⟩
      have HS3 := Lib.hid hs
      have HG3 : Hid (Gs s w w3) := Gs.trans (by repeat (first | with_reducible exact HG2.out | with_reducible refine Gs.alloc ?_ _)) hg
      have hz3 : w.heap.size ≤ w3.heap.size := HG3.out.size
      have lq3 : s < w3.heap.size := HS3.out.lt
      clear hs hg
      go_wp2
      go_ret
      exact ⟨_, rfl, (by repeat (first | with_reducible exact HS3.out | with_reducible refine Src.alloc ?_ _)), (by repeat (first | with_reducible exact HG3.out | with_reducible refine Gs.alloc ?_ _))⟩
    · have f1 : (k == 1) = false := by simpa using e1
      clear e1
      go_wp2_with fail
      refine (next_any s _ _ (by repeat (first | with_reducible exact HS1.out | with_reducible refine Src.alloc ?_ _))).mono ?_
      rintro en w2 ⟨x, rfl, x0, xb, hs, hg⟩
      have HS2 := Lib.hid hs
      have HG2 : Hid (Gs s w w2) := Gs.trans (by repeat (first | with_reducible exact HG1.out | with_reducible refine Gs.alloc ?_ _)) hg
      have hz2 : w.heap.size ≤ w2.heap.size := HG2.out.size
      have lq2 : s < w2.heap.size := HS2.out.lt
      clear hs hg
      go_wp2
      go_ret
      exact ⟨_, rfl, (by repeat (first | with_reducible exact HS2.out | with_reducible refine Src.alloc ?_ _)), (by repeat (first | with_reducible exact HG2.out | with_reducible refine Gs.alloc ?_ _))⟩
set_option maxRecDepth 100000 in
set_option maxHeartbeats 8000000 in
theorem dTrace_any (s : Nat) (w : World) (h : Src w s) : Calls Try.prog 89 #[.pointer (some ⟨s, 0, none⟩)] w (LstPost 30 s w) := by
  have ls0 := h.lt
  go_enter Try.func89, Try.ntmps89
  have HO0 := Lib.hid (OwnV.empty w w.heap.size (Nat.le_refl _))
  go_wp2_with fail
  refine (next_any s _ _ (by repeat (first | with_reducible exact h | with_reducible refine Src.alloc ?_ _))).mono ?_
  rintro en w1 ⟨x, rfl, x0, xb, hs, hg⟩
  have HS1 := Lib.hid hs
  have HG1 : Hid (Gs s w w1) := Gs.trans (by repeat (first | with_reducible exact (Gs.refl s w) | with_reducible refine Gs.alloc ?_ _)) hg
  have HO1_0 : Hid (OwnV w1 w.heap.size (.slice (some ⟨w.heap.size, 0, none⟩) 0 0) ([])) := OwnV.gs (by repeat (first | with_reducible exact HO0.out | with_reducible refine OwnV.alloc ?_ _)) hg ls0
  have hz1 : w.heap.size ≤ w1.heap.size := HG1.out.size
  have lq1 : s < w1.heap.size := HS1.out.lt
  clear hs hg
  have hxm : x ≤ 19 := by omega
  go_wp2
  go_loopw [3, 4] (fun v i wr => ∃ (j : Nat) (xs : List Int), i = .int .i64 (j : Int) ∧ xs.length + j ≤ 19 ∧ Hid (OwnV wr w.heap.size v xs) ∧ w.heap.size ≤ wr.heap.size ∧ Hid (Src wr s) ∧ Hid (Gs s w wr)) (fun _ i _ => (intOf i).toNat)
  case atStart => exact ⟨x.toNat, [], by congr 1; omega, by simp; omega, HO1_0, hz1, HS1, HG1⟩
  
  case round =>
    obtain ⟨j, xs, rfl, hl, HV, hz, HR, HH⟩ := hrel
    have hlq := HR.out.lt
    cases j with
    | zero =>
      go_wp2_with fail
      refine (next_any s _ _ (by repeat (first | with_reducible exact HR.out | with_reducible refine Src.alloc ?_ _))).mono ?_
      rintro en w21 ⟨k, rfl, k0, kb, hs, hg⟩
      have HS21 := Lib.hid hs
      have HG21 : Hid (Gs s w w21) := Gs.trans (by repeat (first | with_reducible exact HH.out | with_reducible refine Gs.alloc ?_ _)) hg
      have HO21_0 : Hid (OwnV w21 w.heap.size (u3) (xs)) := OwnV.gs (by repeat (first | with_reducible exact HV.out | with_reducible refine OwnV.alloc ?_ _)) hg ls0
      have hz21 : w.heap.size ≤ w21.heap.size := HG21.out.size
      have lq21 : s < w21.heap.size := HS21.out.lt
      clear hs hg
      by_cases e0 : k = 0
      · have f0 : (k == 0) = true := by simpa using e0
        clear e0
        go_wp2_with fail
        refine (dVal_any s _ (by repeat (first | with_reducible exact HS21.out | with_reducible refine Src.alloc ?_ _))).mono ?_
        rintro en w22 ⟨y, rfl, hs, hg⟩
        have HS22 := Lib.hid hs
        have HG22 : Hid (Gs s w w22) := Gs.trans (by repeat (first | with_reducible exact HG21.out | with_reducible refine Gs.alloc ?_ _)) hg
        have HO22_0 : Hid (OwnV w22 w.heap.size (u3) (xs)) := OwnV.gs (by repeat (first | with_reducible exact HO21_0.out | with_reducible refine OwnV.alloc ?_ _)) hg ls0
        have hz22 : w.heap.size ≤ w22.heap.size := HG22.out.size
        have lq22 : s < w22.heap.size := HS22.out.lt
        clear hs hg
        go_wp2_with (at_builtin; refine app_int rfl _ _ rfl w.heap.size (u3) (xs) rfl (OwnV.alloc (by repeat (first | with_reducible exact HO22_0.out | with_reducible refine OwnV.alloc ?_ _)) _) (y) _ rfl (cell_new1 _ _) (by omega) (by simp only [World.size_alloc]; omega) ?_; intro g23 cap23 w23 hown hb)
        have HS23 := Lib.hid (Src.low (Src.alloc (by repeat (first | with_reducible exact HS22.out | with_reducible refine Src.alloc ?_ _)) _) hb ls0)
        have HG23 : Hid (Gs s w w23) := Gs.then (Gs.alloc (by repeat (first | with_reducible exact HG22.out | with_reducible refine Gs.alloc ?_ _)) _) hb
        have HO23_0 : Hid (OwnV w23 w.heap.size (.slice (some ⟨g23, 0, none⟩) ((xs).length + 1) cap23) (xs ++ [y])) := hown
        have hz23 : w.heap.size ≤ w23.heap.size := HG23.out.size
        have lq23 : s < w23.heap.size := HS23.out.lt
        clear hown hb
        go_wp2
        go_ret
        exact ⟨.slice (some ⟨g23, 0, none⟩) ((xs).length + 1) cap23, xs ++ [y], rfl, (by repeat (first | with_reducible exact HO23_0.out | with_reducible refine OwnV.alloc ?_ _)), (by simp; omega), (by repeat (first | with_reducible exact HS23.out | with_reducible refine Src.alloc ?_ _)), (by repeat (first | with_reducible exact HG23.out | with_reducible refine Gs.alloc ?_ _))⟩
      · have f0 : (k == 0) = false := by simpa using e0
        clear e0
        go_wp2
        go_ret
        exact ⟨u3, xs, rfl, (by repeat (first | with_reducible exact HO21_0.out | with_reducible refine OwnV.alloc ?_ _)), (by omega), (by repeat (first | with_reducible exact HS21.out | with_reducible refine Src.alloc ?_ _)), (by repeat (first | with_reducible exact HG21.out | with_reducible refine Gs.alloc ?_ _))⟩
    | succ j =>
      have hj : (0 : Int) < ((j + 1 : Nat) : Int) := by omega
      go_wp2_with fail
      refine (next_any s _ _ (by repeat (first | with_reducible exact HR.out | with_reducible refine Src.alloc ?_ _))).mono ?_
      rintro en w11 ⟨y, rfl, y0, yb, hs, hg⟩
      have HS11 := Lib.hid hs
      have HG11 : Hid (Gs s w w11) := Gs.trans (by repeat (first | with_reducible exact HH.out | with_reducible refine Gs.alloc ?_ _)) hg
      have HO11_0 : Hid (OwnV w11 w.heap.size (u3) (xs)) := OwnV.gs (by repeat (first | with_reducible exact HV.out | with_reducible refine OwnV.alloc ?_ _)) hg ls0
      have hz11 : w.heap.size ≤ w11.heap.size := HG11.out.size
      have lq11 : s < w11.heap.size := HS11.out.lt
      clear hs hg
      go_wp2_with fail
      refine (next_any s _ _ (by repeat (first | with_reducible exact HS11.out | with_reducible refine Src.alloc ?_ _))).mono ?_
      rintro en w12 ⟨z, rfl, z0, zb, hs, hg⟩
      have HS12 := Lib.hid hs
      have HG12 : Hid (Gs s w w12) := Gs.trans (by repeat (first | with_reducible exact HG11.out | with_reducible refine Gs.alloc ?_ _)) hg
      have HO12_0 : Hid (OwnV w12 w.heap.size (u3) (xs)) := OwnV.gs (by repeat (first | with_reducible exact HO11_0.out | with_reducible refine OwnV.alloc ?_ _)) hg ls0
      have hz12 : w.heap.size ≤ w12.heap.size := HG12.out.size
      have lq12 : s < w12.heap.size := HS12.out.lt
      clear hs hg
      go_wp2_with fail
      refine (pick_any s _ 2 2 [(y - 20), (z - 2)] _ (by repeat (first | with_reducible exact HS12.out | with_reducible refine Src.alloc ?_ _)) rfl (by decide) (by decide) (Rd.new2 _ _ [(y - 20), (z - 2)] (by first | (simp only [World.size_alloc]; done) | (go_size; done))) (fun b off e => by cases e; omega)).mono ?_
      rintro en w13 ⟨p, rfl, pm, hs, hg⟩
      have HS13 := Lib.hid hs
      have HG13 : Hid (Gs s w w13) := Gs.trans (by repeat (first | with_reducible exact HG12.out | with_reducible refine Gs.alloc ?_ _)) hg
      have HO13_0 : Hid (OwnV w13 w.heap.size (u3) (xs)) := OwnV.gs (by repeat (first | with_reducible exact HO12_0.out | with_reducible refine OwnV.alloc ?_ _)) hg ls0
      have hz13 : w.heap.size ≤ w13.heap.size := HG13.out.size
      have lq13 : s < w13.heap.size := HS13.out.lt
      clear hs hg
      go_wp2_with (at_builtin; refine app_int rfl _ _ rfl w.heap.size (u3) (xs) rfl (OwnV.alloc (by repeat (first | with_reducible exact HO13_0.out | with_reducible refine OwnV.alloc ?_ _)) _) (p) _ rfl (cell_new1 _ _) (by omega) (by simp only [World.size_alloc]; omega) ?_; intro g14 cap14 w14 hown hb)
      have HS14 := Lib.hid (Src.low (Src.alloc (by repeat (first | with_reducible exact HS13.out | with_reducible refine Src.alloc ?_ _)) _) hb ls0)
      have HG14 : Hid (Gs s w w14) := Gs.then (Gs.alloc (by repeat (first | with_reducible exact HG13.out | with_reducible refine Gs.alloc ?_ _)) _) hb
      have HO14_0 : Hid (OwnV w14 w.heap.size (.slice (some ⟨g14, 0, none⟩) ((xs).length + 1) cap14) (xs ++ [p])) := hown
      have hz14 : w.heap.size ≤ w14.heap.size := HG14.out.size
      have lq14 : s < w14.heap.size := HS14.out.lt
      clear hown hb
      go_roundw
      case rel => exact ⟨j, xs ++ [p], by go_num, by simp; omega, HO14_0, hz14, HS14, HG14⟩
      case measure => simp [intOf]

set_option maxHeartbeats 4000000 in
theorem dPeak_any (A : Option Addr) (n c : Nat) (w : World) (hr : RdB w A n) (hm : n ≤ 4096) : Calls Try.prog 33 #[.slice A n c] w (LstDraw 30 w) := by
  go_enter Try.func33, Try.ntmps33
  go_wp2_with fail
  refine (from_any A n c _ hr hm).mono ?_
  rintro en w1 ⟨s, rfl, hs1, hS1, hb1⟩
  go_wp2_with fail
  refine (dTrace_any s _ hS1).mono ?_
  rintro en w2 ⟨v, xs, rfl, hown, hlen, hS2, hg2⟩
  obtain ⟨A9, p, c9, rfl, hp, hpc, hrd, hA⟩ := hown.sl
  have HB := Lib.hid (hb1.trans (hg2.to_below hs1 hb1.size))
  have HR := Lib.hid hrd
  clear hown hb1 hg2 hrd
  go_wp2
  go_ret
  exact ⟨A9, p, c9, xs, rfl, hp, hpc, by omega, HR.out, hA, HB.out⟩

set_option maxRecDepth 100000 in
set_option maxHeartbeats 8000000 in
theorem dPo_any (A : Option Addr) (n c : Nat) (w : World) (hr : RdB w A n) (hm : n ≤ 4096) : Calls Try.prog 34 #[.slice A n c] w (PobDraw w) := by
  go_enter Try.func34, Try.ntmps34
  go_wp2_with fail
  refine (from_any A n c _ hr hm).mono ?_
  rintro en w1 ⟨s, rfl, hs1, hS1, hb1⟩
  have ls0 := hS1.lt
  have HB1 := Lib.hid hb1
  have hz1 := hb1.size
  clear hr hb1
  go_wp2_with fail
  refine (next_any s _ _ (by repeat (first | with_reducible exact hS1 | with_reducible refine Src.alloc ?_ _))).mono ?_
  rintro en w2 ⟨x, rfl, x0, xb, hs, hg⟩
  have HS2 := Lib.hid hs
  have HG2 : Hid (Gs s w1 w2) := Gs.trans (by repeat (first | with_reducible exact (Gs.refl s w1) | with_reducible refine Gs.alloc ?_ _)) hg
  have hz2 : w1.heap.size ≤ w2.heap.size := HG2.out.size
  have lq2 : s < w2.heap.size := HS2.out.lt
  clear hs hg
  go_wp2_with fail
  refine (next_any s _ _ (by repeat (first | with_reducible exact HS2.out | with_reducible refine Src.alloc ?_ _))).mono ?_
  rintro en w3 ⟨y, rfl, y0, yb, hs, hg⟩
  have HS3 := Lib.hid hs
  have HG3 : Hid (Gs s w1 w3) := Gs.trans (by repeat (first | with_reducible exact HG2.out | with_reducible refine Gs.alloc ?_ _)) hg
  have hz3 : w1.heap.size ≤ w3.heap.size := HG3.out.size
  have lq3 : s < w3.heap.size := HS3.out.lt
  clear hs hg
  go_wp2_with fail
  refine (next_any s _ _ (by repeat (first | with_reducible exact HS3.out | with_reducible refine Src.alloc ?_ _))).mono ?_
  rintro en w4 ⟨z, rfl, z0, zb, hs, hg⟩
  have HS4 := Lib.hid hs
  have HG4 : Hid (Gs s w1 w4) := Gs.trans (by repeat (first | with_reducible exact HG3.out | with_reducible refine Gs.alloc ?_ _)) hg
  have hz4 : w1.heap.size ≤ w4.heap.size := HG4.out.size
  have lq4 : s < w4.heap.size := HS4.out.lt
  clear hs hg
  by_cases e0 : z = 0
  · have f0 : (z == 0) = true := by simpa using e0
    clear e0
    go_wp2_with fail
    refine (pick_any s _ 3 3 [0, 1000000000000, 1000000000001] _ (by repeat (first | with_reducible exact HS4.out | with_reducible refine Src.alloc ?_ _)) rfl (by decide) (by decide) (Rd.new2 _ _ [0, 1000000000000, 1000000000001] (by first | (simp only [World.size_alloc]; done) | (go_size; done))) (fun b off e => by cases e; omega)).mono ?_
    rintro en w5 ⟨x2, rfl, x2m, hs, hg⟩
    have HS5 := Lib.hid hs
    have HG5 : Hid (Gs s w1 w5) := Gs.trans (by repeat (first | with_reducible exact HG4.out | with_reducible refine Gs.alloc ?_ _)) hg
    have hz5 : w1.heap.size ≤ w5.heap.size := HG5.out.size
    have lq5 : s < w5.heap.size := HS5.out.lt
    clear hs hg
    go_wp2_with fail
    refine (dTrace_any s _ (by repeat (first | with_reducible exact HS5.out | with_reducible refine Src.alloc ?_ _))).mono ?_
    rintro en w6 ⟨v, xs, rfl, hown, xslen, hs, hg⟩
    have HS6 := Lib.hid hs
    have HG6 : Hid (Gs s w1 w6) := Gs.trans (by repeat (first | with_reducible exact HG5.out | with_reducible refine Gs.alloc ?_ _)) hg
    have hz6 : w1.heap.size ≤ w6.heap.size := HG6.out.size
    have lq6 : s < w6.heap.size := HS6.out.lt
    have HO6_0 := Lib.hid hown
    clear hs hg hown
    go_wp2
    go_ret3
    exact ⟨v, xs, x2, y, rfl, OwnV.low (by repeat (first | with_reducible exact HO6_0.out | with_reducible refine OwnV.alloc ?_ _)) (Nat.le_trans hz1 hz5), by omega, HB1.out.trans (Gs.to_below (s := s) (by repeat (first | with_reducible exact HG6.out | with_reducible refine Gs.alloc ?_ _)) hs1 hz1)⟩
  · have f0 : (z == 0) = false := by simpa using e0
    clear e0
    by_cases e1 : z = 1
    · have f1 : (z == 1) = true := by simpa using e1
      clear e1
      go_wp2_with fail
      refine (pick_any s _ 3 3 [(-1), 400, 401] _ (by repeat (first | with_reducible exact HS4.out | with_reducible refine Src.alloc ?_ _)) rfl (by decide) (by decide) (Rd.new2 _ _ [(-1), 400, 401] (by first | (simp only [World.size_alloc]; done) | (go_size; done))) (fun b off e => by cases e; omega)).mono ?_
      rintro en w5 ⟨y2, rfl, y2m, hs, hg⟩
      have HS5 := Lib.hid hs
      have HG5 : Hid (Gs s w1 w5) := Gs.trans (by repeat (first | with_reducible exact HG4.out | with_reducible refine Gs.alloc ?_ _)) hg
      have hz5 : w1.heap.size ≤ w5.heap.size := HG5.out.size
      have lq5 : s < w5.heap.size := HS5.out.lt
      clear hs hg
      go_wp2_with fail
      refine (dTrace_any s _ (by repeat (first | with_reducible exact HS5.out | with_reducible refine Src.alloc ?_ _))).mono ?_
      rintro en w6 ⟨v, xs, rfl, hown, xslen, hs, hg⟩
      have HS6 := Lib.hid hs
      have HG6 : Hid (Gs s w1 w6) := Gs.trans (by repeat (first | with_reducible exact HG5.out | with_reducible refine Gs.alloc ?_ _)) hg
      have hz6 : w1.heap.size ≤ w6.heap.size := HG6.out.size
      have lq6 : s < w6.heap.size := HS6.out.lt
      have HO6_0 := Lib.hid hown
      clear hs hg hown
      go_wp2
      go_ret3
      exact ⟨v, xs, (1 + x), y2, rfl, OwnV.low (by repeat (first | with_reducible exact HO6_0.out | with_reducible refine OwnV.alloc ?_ _)) (Nat.le_trans hz1 hz5), by omega, HB1.out.trans (Gs.to_below (s := s) (by repeat (first | with_reducible exact HG6.out | with_reducible refine Gs.alloc ?_ _)) hs1 hz1)⟩
    · have f1 : (z == 1) = false := by simpa using e1
      clear e1
      go_wp2_with fail
      refine (dTrace_any s _ (by repeat (first | with_reducible exact HS4.out | with_reducible refine Src.alloc ?_ _))).mono ?_
      rintro en w5 ⟨v, xs, rfl, hown, xslen, hs, hg⟩
      have HS5 := Lib.hid hs
      have HG5 : Hid (Gs s w1 w5) := Gs.trans (by repeat (first | with_reducible exact HG4.out | with_reducible refine Gs.alloc ?_ _)) hg
      have hz5 : w1.heap.size ≤ w5.heap.size := HG5.out.size
      have lq5 : s < w5.heap.size := HS5.out.lt
      have HO5_0 := Lib.hid hown
      clear hs hg hown
      go_wp2
      go_ret3
      exact ⟨v, xs, (1 + x), y, rfl, OwnV.low (by repeat (first | with_reducible exact HO5_0.out | with_reducible refine OwnV.alloc ?_ _)) (Nat.le_trans hz1 hz4), by omega, HB1.out.trans (Gs.to_below (s := s) (by repeat (first | with_reducible exact HG5.out | with_reducible refine Gs.alloc ?_ _)) hs1 hz1)⟩
end Go.Proofs.Ytgfhmihnnjcagaa
