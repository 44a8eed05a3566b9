/- walks: bits and pulses drawn -/
import Derived.Test.YtgfhmihnnjcagaaDrW2
set_option linter.unusedVariables false
set_option linter.unusedSimpArgs false
namespace Go.Proofs.Ytgfhmihnnjcagaa
open Go.RowKit
set_option maxRecDepth 100000 in
set_option maxHeartbeats 8000000 in
theorem dBits_any (s : Nat) (m : Nat) (w : World) (h : Src w s) (hm : m ≤ 100) : Calls Try.prog 110 #[.pointer (some ⟨s, 0, none⟩), .int .i64 m] w (LstPost m s w) := by
  have ls0 := h.lt
  go_enter Try.func110, Try.ntmps110
  have HO0 := Lib.hid (OwnV.empty w w.heap.size (Nat.le_refl _))
  go_wp2_with fail
  refine (next_any s _ _ (by repeat (first | with_reducible exact h | with_reducible refine Src.alloc ?_ _))).mono ?_
  rintro en w1 ⟨x, rfl, x0, xb, hs, hg⟩
  have HS1 := Lib.hid hs
  have HG1 : Hid (Gs s w w1) := Gs.trans (by repeat (first | with_reducible exact (Gs.refl s w) | with_reducible refine Gs.alloc ?_ _)) hg
  have HO1_0 : Hid (OwnV w1 w.heap.size (.slice (some ⟨w.heap.size, 0, none⟩) 0 0) ([])) := OwnV.gs (by repeat (first | with_reducible exact HO0.out | with_reducible refine OwnV.alloc ?_ _)) hg ls0
  have hz1 : w.heap.size ≤ w1.heap.size := HG1.out.size
  have lq1 : s < w1.heap.size := HS1.out.lt
  clear hs hg
  have hxm : x ≤ m := by omega
  go_wp2
  go_loopw [5, 6] (fun v i wr => ∃ (j : Nat) (xs : List Int), i = .int .i64 (j : Int) ∧ xs.length + j ≤ m ∧ Hid (OwnV wr w.heap.size v xs) ∧ w.heap.size ≤ wr.heap.size ∧ Hid (Src wr s) ∧ Hid (Gs s w wr)) (fun _ i _ => (intOf i).toNat)
  case atStart => exact ⟨x.toNat, [], by congr 1; omega, by simp; omega, HO1_0, hz1, HS1, HG1⟩
  
  case round =>
    obtain ⟨j, xs, rfl, hl, HV, hz, HR, HH⟩ := hrel
    have hlq := HR.out.lt
    cases j with
    | zero =>
      go_wp2
      go_ret
      exact ⟨_, xs, rfl, HV.out, by omega, HR.out, HH.out⟩
    | succ j =>
      have hj : (0 : Int) < ((j + 1 : Nat) : Int) := by omega
      go_wp2_with fail
      refine (next_any s _ _ (by repeat (first | with_reducible exact HR.out | with_reducible refine Src.alloc ?_ _))).mono ?_
      rintro en w11 ⟨y, rfl, y0, yb, hs, hg⟩
      have HS11 := Lib.hid hs
      have HG11 : Hid (Gs s w w11) := Gs.trans (by repeat (first | with_reducible exact HH.out | with_reducible refine Gs.alloc ?_ _)) hg
      have HO11_0 : Hid (OwnV w11 w.heap.size (u5) (xs)) := OwnV.gs (by repeat (first | with_reducible exact HV.out | with_reducible refine OwnV.alloc ?_ _)) hg ls0
      have hz11 : w.heap.size ≤ w11.heap.size := HG11.out.size
      have lq11 : s < w11.heap.size := HS11.out.lt
      clear hs hg
      go_wp2_with (at_builtin; refine app_int rfl _ _ rfl w.heap.size (u5) (xs) rfl (OwnV.alloc (by repeat (first | with_reducible exact HO11_0.out | with_reducible refine OwnV.alloc ?_ _)) _) (y) _ rfl (cell_new1 _ _) (by omega) (by simp only [World.size_alloc]; omega) ?_; intro g12 cap12 w12 hown hb)
      have HS12 := Lib.hid (Src.low (Src.alloc (by repeat (first | with_reducible exact HS11.out | with_reducible refine Src.alloc ?_ _)) _) hb ls0)
      have HG12 : Hid (Gs s w w12) := Gs.then (Gs.alloc (by repeat (first | with_reducible exact HG11.out | with_reducible refine Gs.alloc ?_ _)) _) hb
      have HO12_0 : Hid (OwnV w12 w.heap.size (.slice (some ⟨g12, 0, none⟩) ((xs).length + 1) cap12) (xs ++ [y])) := hown
      have hz12 : w.heap.size ≤ w12.heap.size := HG12.out.size
      have lq12 : s < w12.heap.size := HS12.out.lt
      clear hown hb
      go_roundw
      case rel => exact ⟨j, xs ++ [y], by go_num, by simp; omega, HO12_0, hz12, HS12, HG12⟩
      case measure => simp [intOf]

def PobDraw (w : World) (en : Ending) (w9 : World) : Prop := ∃ (v : Value) (xs : List Int) (x y : Int), en = .returned (.tuple #[v, .int .i64 x, .int .i64 y]) ∧ OwnV w9 w.heap.size v xs ∧ xs.length ≤ 100 ∧ Below w.heap.size w w9

set_option maxRecDepth 100000 in
set_option maxHeartbeats 8000000 in
theorem dPob_any (A : Option Addr) (n c : Nat) (w : World) (hr : RdB w A n) (hm : n ≤ 4096) : Calls Try.prog 53 #[.slice A n c] w (PobDraw w) := by
  go_enter Try.func53, Try.ntmps53
  go_wp2_with fail
  refine (from_any A n c _ hr hm).mono ?_
  rintro en w1 ⟨s, rfl, hs1, hS1, hb1⟩
  have ls0 := hS1.lt
  have HB1 := Lib.hid hb1
  have hz1 := hb1.size
  clear hr hb1
  go_wp2_with fail
  refine (dBits_any s 10 _ (by repeat (first | with_reducible exact hS1 | with_reducible refine Src.alloc ?_ _)) (by omega)).mono ?_
  rintro en w2 ⟨v, xs, rfl, hown, xslen, hs, hg⟩
  have HS2 := Lib.hid hs
  have HG2 : Hid (Gs s w1 w2) := Gs.trans (by repeat (first | with_reducible exact (Gs.refl s w1) | with_reducible refine Gs.alloc ?_ _)) hg
  have hz2 : w1.heap.size ≤ w2.heap.size := HG2.out.size
  have lq2 : s < w2.heap.size := HS2.out.lt
  have HO2_0 := Lib.hid hown
  clear hs hg hown
  go_wp2_with fail
  refine (next_any s _ _ (by repeat (first | with_reducible exact HS2.out | with_reducible refine Src.alloc ?_ _))).mono ?_
  rintro en w3 ⟨x, rfl, x0, xb, hs, hg⟩
  have HS3 := Lib.hid hs
  have HG3 : Hid (Gs s w1 w3) := Gs.trans (by repeat (first | with_reducible exact HG2.out | with_reducible refine Gs.alloc ?_ _)) hg
  have HO3_0 : Hid (OwnV w3 w1.heap.size (v) (xs)) := OwnV.gs (by repeat (first | with_reducible exact HO2_0.out | with_reducible refine OwnV.alloc ?_ _)) hg ls0
  have hz3 : w1.heap.size ≤ w3.heap.size := HG3.out.size
  have lq3 : s < w3.heap.size := HS3.out.lt
  clear hs hg
  go_wp2_with fail
  refine (next_any s _ _ (by repeat (first | with_reducible exact HS3.out | with_reducible refine Src.alloc ?_ _))).mono ?_
  rintro en w4 ⟨y, rfl, y0, yb, hs, hg⟩
  have HS4 := Lib.hid hs
  have HG4 : Hid (Gs s w1 w4) := Gs.trans (by repeat (first | with_reducible exact HG3.out | with_reducible refine Gs.alloc ?_ _)) hg
  have HO4_0 : Hid (OwnV w4 w1.heap.size (v) (xs)) := OwnV.gs (by repeat (first | with_reducible exact HO3_0.out | with_reducible refine OwnV.alloc ?_ _)) hg ls0
  have hz4 : w1.heap.size ≤ w4.heap.size := HG4.out.size
  have lq4 : s < w4.heap.size := HS4.out.lt
  clear hs hg
  go_wp2_with fail
  refine (next_any s _ _ (by repeat (first | with_reducible exact HS4.out | with_reducible refine Src.alloc ?_ _))).mono ?_
  rintro en w5 ⟨z, rfl, z0, zb, hs, hg⟩
  have HS5 := Lib.hid hs
  have HG5 : Hid (Gs s w1 w5) := Gs.trans (by repeat (first | with_reducible exact HG4.out | with_reducible refine Gs.alloc ?_ _)) hg
  have HO5_0 : Hid (OwnV w5 w1.heap.size (v) (xs)) := OwnV.gs (by repeat (first | with_reducible exact HO4_0.out | with_reducible refine OwnV.alloc ?_ _)) hg ls0
  have hz5 : w1.heap.size ≤ w5.heap.size := HG5.out.size
  have lq5 : s < w5.heap.size := HS5.out.lt
  clear hs hg
  by_cases e0 : z = 0
  · have f0 : (z == 0) = true := by simpa using e0
    clear e0
    go_wp2_with fail
    refine (pick_any s _ 5 5 [0, 40, 41, 400, 401] _ (by repeat (first | with_reducible exact HS5.out | with_reducible refine Src.alloc ?_ _)) rfl (by decide) (by decide) (Rd.new2 _ _ [0, 40, 41, 400, 401] (by first | (simp only [World.size_alloc]; done) | (go_size; done))) (fun b off e => by cases e; omega)).mono ?_
    rintro en w6 ⟨x2, rfl, x2m, hs, hg⟩
    have HS6 := Lib.hid hs
    have HG6 : Hid (Gs s w1 w6) := Gs.trans (by repeat (first | with_reducible exact HG5.out | with_reducible refine Gs.alloc ?_ _)) hg
    have HO6_0 : Hid (OwnV w6 w1.heap.size (v) (xs)) := OwnV.gs (by repeat (first | with_reducible exact HO5_0.out | with_reducible refine OwnV.alloc ?_ _)) hg ls0
    have hz6 : w1.heap.size ≤ w6.heap.size := HG6.out.size
    have lq6 : s < w6.heap.size := HS6.out.lt
    clear hs hg
    go_wp2
    go_ret3
    exact ⟨v, xs, x2, (1 + y), rfl, OwnV.low (by repeat (first | with_reducible exact HO6_0.out | with_reducible refine OwnV.alloc ?_ _)) (Nat.le_trans hz1 (Nat.le_refl _)), by (try simp only [List.length_append, List.length_singleton]); omega, HB1.out.trans (Gs.to_below (s := s) (by repeat (first | with_reducible exact HG6.out | with_reducible refine Gs.alloc ?_ _)) hs1 hz1)⟩
  · have f0 : (z == 0) = false := by simpa using e0
    clear e0
    by_cases e1 : z = 1
    · have f1 : (z == 1) = true := by simpa using e1
      clear e1
      go_wp2_with fail
      refine (pick_any s _ 3 3 [0, 1000, 1001] _ (by repeat (first | with_reducible exact HS5.out | with_reducible refine Src.alloc ?_ _)) rfl (by decide) (by decide) (Rd.new2 _ _ [0, 1000, 1001] (by first | (simp only [World.size_alloc]; done) | (go_size; done))) (fun b off e => by cases e; omega)).mono ?_
      rintro en w6 ⟨y2, rfl, y2m, hs, hg⟩
      have HS6 := Lib.hid hs
      have HG6 : Hid (Gs s w1 w6) := Gs.trans (by repeat (first | with_reducible exact HG5.out | with_reducible refine Gs.alloc ?_ _)) hg
      have HO6_0 : Hid (OwnV w6 w1.heap.size (v) (xs)) := OwnV.gs (by repeat (first | with_reducible exact HO5_0.out | with_reducible refine OwnV.alloc ?_ _)) hg ls0
      have hz6 : w1.heap.size ≤ w6.heap.size := HG6.out.size
      have lq6 : s < w6.heap.size := HS6.out.lt
      clear hs hg
      go_wp2
      go_ret3
      exact ⟨v, xs, (1 + x), y2, rfl, OwnV.low (by repeat (first | with_reducible exact HO6_0.out | with_reducible refine OwnV.alloc ?_ _)) (Nat.le_trans hz1 (Nat.le_refl _)), by (try simp only [List.length_append, List.length_singleton]); omega, HB1.out.trans (Gs.to_below (s := s) (by repeat (first | with_reducible exact HG6.out | with_reducible refine Gs.alloc ?_ _)) hs1 hz1)⟩
    · have f1 : (z == 1) = false := by simpa using e1
      clear e1
      by_cases e2 : z = 2
      · have f2 : (z == 2) = true := by simpa using e2
        clear e2
        go_wp2_with (at_builtin; refine app_int rfl _ _ rfl w1.heap.size (v) (xs) rfl (OwnV.alloc (by repeat (first | with_reducible exact HO5_0.out | with_reducible refine OwnV.alloc ?_ _)) _) (2) _ rfl (cell_new1 _ _) (by omega) (by simp only [World.size_alloc]; omega) ?_; intro g6 cap6 w6 hown hb)
        have HS6 := Lib.hid (Src.low (Src.alloc (by repeat (first | with_reducible exact HS5.out | with_reducible refine Src.alloc ?_ _)) _) hb ls0)
        have HG6 : Hid (Gs s w1 w6) := Gs.then (Gs.alloc (by repeat (first | with_reducible exact HG5.out | with_reducible refine Gs.alloc ?_ _)) _) (hb.mono (Nat.le_refl _))
        have HO6_0 : Hid (OwnV w6 w1.heap.size (.slice (some ⟨g6, 0, none⟩) ((xs).length + 1) cap6) (xs ++ [2])) := hown
        have hz6 : w1.heap.size ≤ w6.heap.size := HG6.out.size
        have lq6 : s < w6.heap.size := HS6.out.lt
        clear hown hb
        go_wp2
        go_ret3
        exact ⟨.slice (some ⟨g6, 0, none⟩) ((xs).length + 1) cap6, xs ++ [2], (1 + x), (1 + y), rfl, OwnV.low (by repeat (first | with_reducible exact HO6_0.out | with_reducible refine OwnV.alloc ?_ _)) (Nat.le_trans hz1 (Nat.le_refl _)), by (try simp only [List.length_append, List.length_singleton]); omega, HB1.out.trans (Gs.to_below (s := s) (by repeat (first | with_reducible exact HG6.out | with_reducible refine Gs.alloc ?_ _)) hs1 hz1)⟩
      · have f2 : (z == 2) = false := by simpa using e2
        clear e2
        go_wp2
        go_ret3
        exact ⟨v, xs, (1 + x), (1 + y), rfl, OwnV.low (by repeat (first | with_reducible exact HO5_0.out | with_reducible refine OwnV.alloc ?_ _)) (Nat.le_trans hz1 (Nat.le_refl _)), by (try simp only [List.length_append, List.length_singleton]); omega, HB1.out.trans (Gs.to_below (s := s) (by repeat (first | with_reducible exact HG5.out | with_reducible refine Gs.alloc ?_ _)) hs1 hz1)⟩
end Go.Proofs.Ytgfhmihnnjcagaa
