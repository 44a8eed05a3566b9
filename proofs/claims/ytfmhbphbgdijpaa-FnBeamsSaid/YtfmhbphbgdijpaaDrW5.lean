/- walks: plane waves drawn -/
import Derived.Test.YtfmhbphbgdijpaaDrW4
set_option linter.unusedVariables false
set_option linter.unusedSimpArgs false
namespace Go.Proofs.Ytfmhbphbgdijpaa
open Go.RowKit

theorem BoxW.alloc {w : World} {b : Nat} {c s h : Int} (k : BoxW w b c s h) (o : Obj) : BoxW (w.alloc o) b c s h := k.below (Below.alloc (Below.refl _ _) (Nat.le_refl _) _)
def PwDraw (w : World) (en : Ending) (w9 : World) : Prop := ∃ (P : Option Addr) (p pc : Nat) (ps : List Int) (A : Option Addr) (n c : Nat) (xs : List Int) (c1 s1 h1 r v st L : Int), en = .returned (.tuple #[.slice P p pc, .slice A n c, .agg #[.int .i64 c1, .int .i64 s1, .int .i64 h1], .int .i64 r, .int .i64 v, .int .i64 st, .int .i64 L]) ∧ ps.length = p ∧ p ≤ pc ∧ p ≤ 500 ∧ Rd w9 P ps ∧ xs.length = n ∧ n ≤ c ∧ n ≤ 8 ∧ Rd w9 A xs ∧ Below w.heap.size w w9

set_option maxRecDepth 100000 in
set_option maxHeartbeats 8000000 in
theorem dPw_any (A : Option Addr) (n c : Nat) (w : World) (hr : RdB w A n) (hm : n ≤ 4096) : Calls Try.prog 49 #[.slice A n c] w (PwDraw w) := by
  have ha0 : Below w.heap.size w (w.alloc (.cells #[.int .i64 0, .int .i64 0, .int .i64 0] 42)) := Below.alloc (Below.refl _ _) (Nat.le_refl _) _
  go_enter Try.func49, Try.ntmps49
  go_wp2_with fail
  refine (from_any A n c _ (RdB.below hr ha0) hm).mono ?_
  rintro en w1 ⟨s, rfl, hs1, hS1, hb1⟩
  have hs0 : w.heap.size < s := by simp only [World.size_alloc] at hs1; omega
  have ls0 := hS1.lt
  have HB1 : Hid (Below w.heap.size w w1) := ha0.trans (hb1.mono (by simp only [World.size_alloc]; omega))
  have HX1 : Hid (BoxW w1 w.heap.size 0 0 0) := (BoxW.new w 42 0 0 0).below hb1
  have hz1 : w.heap.size < w1.heap.size := by have := hb1.size; simp only [World.size_alloc] at this; omega
  clear hr hb1 ha0
  go_wp2_with fail
  refine (dTimes_any s _ (by repeat (first | with_reducible exact hS1 | with_reducible refine Src.alloc ?_ _))).mono ?_
  rintro en w2 ⟨r, v, rfl, hs, hg⟩
  have HS2 := Lib.hid hs
  have HG2 : Hid (Gs s w1 w2) := Gs.trans (by repeat (first | with_reducible exact (Gs.refl s w1) | with_reducible refine Gs.alloc ?_ _)) hg
  have hz2 : w1.heap.size ≤ w2.heap.size := HG2.out.size
  have lq2 : s < w2.heap.size := HS2.out.lt
  have HX2_0 : Hid (BoxW w2 (w.heap.size) 0 0 0) := BoxW.gs (by repeat (first | with_reducible exact HX1.out | with_reducible refine BoxW.alloc ?_ _)) hg (by omega)
  clear hs hg
  go_wp2_with fail
  refine (dArr_any s _ (by repeat (first | with_reducible exact HS2.out | with_reducible refine Src.alloc ?_ _))).mono ?_
  rintro en w3 ⟨av, xs, rfl, hown, xslen, hs, hg⟩
  have HS3 := Lib.hid hs
  have HG3 : Hid (Gs s w1 w3) := Gs.trans (by repeat (first | with_reducible exact HG2.out | with_reducible refine Gs.alloc ?_ _)) hg
  have hz3 : w1.heap.size ≤ w3.heap.size := HG3.out.size
  have lq3 : s < w3.heap.size := HS3.out.lt
  have HX3_0 : Hid (BoxW w3 (w.heap.size) 0 0 0) := BoxW.gs (by repeat (first | with_reducible exact HX2_0.out | with_reducible refine BoxW.alloc ?_ _)) hg (by omega)
  have HO3_0 := Lib.hid hown
  clear hs hg hown
  go_wp2_with fail
  refine (dDir_any s _ (by repeat (first | with_reducible exact HS3.out | with_reducible refine Src.alloc ?_ _))).mono ?_
  rintro en w4 ⟨c1, s1, h1, rfl, hs, hg⟩
  have HS4 := Lib.hid hs
  have HG4 : Hid (Gs s w1 w4) := Gs.trans (by repeat (first | with_reducible exact HG3.out | with_reducible refine Gs.alloc ?_ _)) hg
  have HO4_0 : Hid (OwnV w4 w2.heap.size (av) (xs)) := OwnV.gs (by repeat (first | with_reducible exact HO3_0.out | with_reducible refine OwnV.alloc ?_ _)) hg lq2
  have hz4 : w1.heap.size ≤ w4.heap.size := HG4.out.size
  have lq4 : s < w4.heap.size := HS4.out.lt
  have HX4_0 : Hid (BoxW w4 (w.heap.size) 0 0 0) := BoxW.gs (by repeat (first | with_reducible exact HX3_0.out | with_reducible refine BoxW.alloc ?_ _)) hg (by omega)
  clear hs hg
  go_wp2_with fail
  refine (dPulse_any s _ (by repeat (first | with_reducible exact HS4.out | with_reducible refine Src.alloc ?_ _))).mono ?_
  rintro en w5 ⟨pv, ps, rfl, hown, pslen, pl8, hs, hg⟩
  have HS5 := Lib.hid hs
  have HG5 : Hid (Gs s w1 w5) := Gs.trans (by repeat (first | with_reducible exact HG4.out | with_reducible refine Gs.alloc ?_ _)) hg
  have HO5_0 : Hid (OwnV w5 w2.heap.size (av) (xs)) := OwnV.gs (by repeat (first | with_reducible exact HO4_0.out | with_reducible refine OwnV.alloc ?_ _)) hg lq2
  have hz5 : w1.heap.size ≤ w5.heap.size := HG5.out.size
  have lq5 : s < w5.heap.size := HS5.out.lt
  have HX5_0 : Hid (BoxW w5 (w.heap.size) 0 0 0) := BoxW.gs (by repeat (first | with_reducible exact HX4_0.out | with_reducible refine BoxW.alloc ?_ _)) hg (by omega)
  have HO5_1 := Lib.hid hown
  clear hs hg hown
  have HXN : Hid (BoxW (w5.alloc (.cells #[.int .i64 c1, .int .i64 s1, .int .i64 h1] 42)) w5.heap.size c1 s1 h1) := BoxW.new _ _ _ _ _
  go_wp2_with fail
  refine (next_any s _ _ (by repeat (first | with_reducible exact HS5.out | with_reducible refine Src.alloc ?_ _))).mono ?_
  rintro en w6 ⟨x, rfl, x0, xb, hs, hg⟩
  have HS6 := Lib.hid hs
  have HG6 : Hid (Gs s w1 w6) := Gs.trans (by repeat (first | with_reducible exact HG5.out | with_reducible refine Gs.alloc ?_ _)) hg
  have HO6_0 : Hid (OwnV w6 w2.heap.size (av) (xs)) := OwnV.gs (by repeat (first | with_reducible exact HO5_0.out | with_reducible refine OwnV.alloc ?_ _)) hg lq2
  have HO6_1 : Hid (OwnV w6 w4.heap.size (pv) (ps)) := OwnV.gs (by repeat (first | with_reducible exact HO5_1.out | with_reducible refine OwnV.alloc ?_ _)) hg lq4
  have hz6 : w1.heap.size ≤ w6.heap.size := HG6.out.size
  have lq6 : s < w6.heap.size := HS6.out.lt
  have HX6_0 : Hid (BoxW w6 (w.heap.size) 0 0 0) := BoxW.gs (by repeat (first | with_reducible exact HX5_0.out | with_reducible refine BoxW.alloc ?_ _)) hg (by omega)
  have HX6_1 : Hid (BoxW w6 (w5.heap.size) c1 s1 h1) := BoxW.gs (by repeat (first | with_reducible exact HXN.out | with_reducible refine BoxW.alloc ?_ _)) hg (by omega)
  clear hs hg
  go_wp2_with fail
  refine (next_any s _ _ (by repeat (first | with_reducible exact HS6.out | with_reducible refine Src.alloc ?_ _))).mono ?_
  rintro en w7 ⟨y, rfl, y0, yb, hs, hg⟩
  have HS7 := Lib.hid hs
  have HG7 : Hid (Gs s w1 w7) := Gs.trans (by repeat (first | with_reducible exact HG6.out | with_reducible refine Gs.alloc ?_ _)) hg
  have HO7_0 : Hid (OwnV w7 w2.heap.size (av) (xs)) := OwnV.gs (by repeat (first | with_reducible exact HO6_0.out | with_reducible refine OwnV.alloc ?_ _)) hg lq2
  have HO7_1 : Hid (OwnV w7 w4.heap.size (pv) (ps)) := OwnV.gs (by repeat (first | with_reducible exact HO6_1.out | with_reducible refine OwnV.alloc ?_ _)) hg lq4
  have hz7 : w1.heap.size ≤ w7.heap.size := HG7.out.size
  have lq7 : s < w7.heap.size := HS7.out.lt
  have HX7_0 : Hid (BoxW w7 (w.heap.size) 0 0 0) := BoxW.gs (by repeat (first | with_reducible exact HX6_0.out | with_reducible refine BoxW.alloc ?_ _)) hg (by omega)
  have HX7_1 : Hid (BoxW w7 (w5.heap.size) c1 s1 h1) := BoxW.gs (by repeat (first | with_reducible exact HX6_1.out | with_reducible refine BoxW.alloc ?_ _)) hg (by omega)
  clear hs hg
  go_wp2_with fail
  refine (next_any s _ _ (by repeat (first | with_reducible exact HS7.out | with_reducible refine Src.alloc ?_ _))).mono ?_
  rintro en w8 ⟨k, rfl, k0, kb, hs, hg⟩
  have HS8 := Lib.hid hs
  have HG8 : Hid (Gs s w1 w8) := Gs.trans (by repeat (first | with_reducible exact HG7.out | with_reducible refine Gs.alloc ?_ _)) hg
  have HO8_0 : Hid (OwnV w8 w2.heap.size (av) (xs)) := OwnV.gs (by repeat (first | with_reducible exact HO7_0.out | with_reducible refine OwnV.alloc ?_ _)) hg lq2
  have HO8_1 : Hid (OwnV w8 w4.heap.size (pv) (ps)) := OwnV.gs (by repeat (first | with_reducible exact HO7_1.out | with_reducible refine OwnV.alloc ?_ _)) hg lq4
  have hz8 : w1.heap.size ≤ w8.heap.size := HG8.out.size
  have lq8 : s < w8.heap.size := HS8.out.lt
  have HX8_0 : Hid (BoxW w8 (w.heap.size) 0 0 0) := BoxW.gs (by repeat (first | with_reducible exact HX7_0.out | with_reducible refine BoxW.alloc ?_ _)) hg (by omega)
  have HX8_1 : Hid (BoxW w8 (w5.heap.size) c1 s1 h1) := BoxW.gs (by repeat (first | with_reducible exact HX7_1.out | with_reducible refine BoxW.alloc ?_ _)) hg (by omega)
  clear hs hg
  by_cases e0 : k = 0
  · have f0 : (k == 0) = true := by simpa using e0
    clear e0
    go_wp2_with fail
    refine (pick_any s _ 3 3 [(-1), 0, 401] _ (by repeat (first | with_reducible exact HS8.out | with_reducible refine Src.alloc ?_ _)) rfl (by decide) (by decide) (Rd.new2 _ _ [(-1), 0, 401] (by first | (simp only [World.size_alloc]; done) | (go_size; done))) (fun b off e => by cases e; omega)).mono ?_
    rintro en w9 ⟨x2, rfl, x2m, hs, hg⟩
    have HS9 := Lib.hid hs
    have HG9 : Hid (Gs s w1 w9) := Gs.trans (by repeat (first | with_reducible exact HG8.out | with_reducible refine Gs.alloc ?_ _)) hg
    have HO9_0 : Hid (OwnV w9 w2.heap.size (av) (xs)) := OwnV.gs (by repeat (first | with_reducible exact HO8_0.out | with_reducible refine OwnV.alloc ?_ _)) hg lq2
    have HO9_1 : Hid (OwnV w9 w4.heap.size (pv) (ps)) := OwnV.gs (by repeat (first | with_reducible exact HO8_1.out | with_reducible refine OwnV.alloc ?_ _)) hg lq4
    have hz9 : w1.heap.size ≤ w9.heap.size := HG9.out.size
    have lq9 : s < w9.heap.size := HS9.out.lt
    have HX9_0 : Hid (BoxW w9 (w.heap.size) 0 0 0) := BoxW.gs (by repeat (first | with_reducible exact HX8_0.out | with_reducible refine BoxW.alloc ?_ _)) hg (by omega)
    have HX9_1 : Hid (BoxW w9 (w5.heap.size) c1 s1 h1) := BoxW.gs (by repeat (first | with_reducible exact HX8_1.out | with_reducible refine BoxW.alloc ?_ _)) hg (by omega)
    clear hs hg
    have HOA := Lib.hid ((by repeat (first | with_reducible exact HO9_0.out | with_reducible refine OwnV.alloc ?_ _)))
    have HOP := Lib.hid ((by repeat (first | with_reducible exact HO9_1.out | with_reducible refine OwnV.alloc ?_ _)))
    have HGF := Lib.hid (show Gs s w1 w9 from (by repeat (first | with_reducible exact HG9.out | with_reducible refine Gs.alloc ?_ _)))
    obtain ⟨A9, a9, ac, e9, ha9, hac, hra, _⟩ := HOA.out.sl
    obtain ⟨P9, p9, pc, e8, hp9, hpc, hrp, _⟩ := HOP.out.sl
    subst e9
    subst e8
    have hal : a9 ≤ 8 := by omega
    have hpl : p9 ≤ 500 := by omega
    have HRA : Hid (RdS w.heap.size w9 A9 xs) := OwnV.rds HOA.out (by have := hz2; omega)
    have HRP : Hid (RdS w.heap.size w9 P9 (ps)) := OwnV.rds HOP.out (by have := hz4; omega)
    have HTO : Hid (Below w.heap.size w w9) := HB1.out.trans (Gs.to_below (s := s) HGF.out (by omega) (by omega))
    have b0 := HX9_0.out.1.1
    have b1 := HX9_0.out.1.2.1
    have b2 := HX9_0.out.1.2.2
    have f0 := HX9_0.out.2.1
    have f1 := HX9_0.out.2.2.1
    have f2 := HX9_0.out.2.2.2
    have d0 := HX9_1.out.1.1
    have d1 := HX9_1.out.1.2.1
    have d2 := HX9_1.out.1.2.2
    have hne : ¬ w5.heap.size = w.heap.size := by omega
    have hne2 : ¬ w.heap.size = w5.heap.size := by omega
    clear hra hrp
    go_wp2
    go_region
    all_goals go_wp2
    all_goals refine bodyPost_ret (v := .tuple #[.slice P9 p9 pc, .slice A9 a9 ac, .agg #[.int .i64 c1, .int .i64 s1, .int .i64 h1], .int .i64 r, .int .i64 v, .int .i64 x2, .int .i64 (60 + y)]) (by simp [results, Try.results49, go_sem, b0, b1, b2, f0, f1, f2, d0, d1, d2]) rfl ⟨P9, p9, pc, ps, A9, a9, ac, xs, c1, s1, h1, r, v, x2, (60 + y), rfl, hp9, hpc, hpl, (RdS.gs HRP.out (by repeat (first | with_reducible exact Gs.refl _ _ | with_reducible refine Gs.set ?_ | with_reducible refine Gs.drew ?_))).rd, ha9, hac, hal, (RdS.gs HRA.out (by repeat (first | with_reducible exact Gs.refl _ _ | with_reducible refine Gs.set ?_ | with_reducible refine Gs.drew ?_))).rd, (by repeat (first | with_reducible exact HTO.out | (refine Below.setCell ?_ ?_ _; rotate_left; ((try dsimp only); omega)) | with_reducible refine Below.drew ?_))⟩
  · have f0 : (k == 0) = false := by simpa using e0
    clear e0
    by_cases e1 : k = 1
    · have f1 : (k == 1) = true := by simpa using e1
      clear e1
      go_wp2_with fail
      refine (pick_any s _ 4 4 [(-1), 0, 400, 401] _ (by repeat (first | with_reducible exact HS8.out | with_reducible refine Src.alloc ?_ _)) rfl (by decide) (by decide) (Rd.new2 _ _ [(-1), 0, 400, 401] (by first | (simp only [World.size_alloc]; done) | (go_size; done))) (fun b off e => by cases e; omega)).mono ?_
      rintro en w9 ⟨y2, rfl, y2m, hs, hg⟩
      have HS9 := Lib.hid hs
      have HG9 : Hid (Gs s w1 w9) := Gs.trans (by repeat (first | with_reducible exact HG8.out | with_reducible refine Gs.alloc ?_ _)) hg
      have HO9_0 : Hid (OwnV w9 w2.heap.size (av) (xs)) := OwnV.gs (by repeat (first | with_reducible exact HO8_0.out | with_reducible refine OwnV.alloc ?_ _)) hg lq2
      have HO9_1 : Hid (OwnV w9 w4.heap.size (pv) (ps)) := OwnV.gs (by repeat (first | with_reducible exact HO8_1.out | with_reducible refine OwnV.alloc ?_ _)) hg lq4
      have hz9 : w1.heap.size ≤ w9.heap.size := HG9.out.size
      have lq9 : s < w9.heap.size := HS9.out.lt
      have HX9_0 : Hid (BoxW w9 (w.heap.size) 0 0 0) := BoxW.gs (by repeat (first | with_reducible exact HX8_0.out | with_reducible refine BoxW.alloc ?_ _)) hg (by omega)
      have HX9_1 : Hid (BoxW w9 (w5.heap.size) c1 s1 h1) := BoxW.gs (by repeat (first | with_reducible exact HX8_1.out | with_reducible refine BoxW.alloc ?_ _)) hg (by omega)
      clear hs hg
      have HOA := Lib.hid ((by repeat (first | with_reducible exact HO9_0.out | with_reducible refine OwnV.alloc ?_ _)))
      have HOP := Lib.hid ((by repeat (first | with_reducible exact HO9_1.out | with_reducible refine OwnV.alloc ?_ _)))
      have HGF := Lib.hid (show Gs s w1 w9 from (by repeat (first | with_reducible exact HG9.out | with_reducible refine Gs.alloc ?_ _)))
      obtain ⟨A9, a9, ac, e9, ha9, hac, hra, _⟩ := HOA.out.sl
      obtain ⟨P9, p9, pc, e8, hp9, hpc, hrp, _⟩ := HOP.out.sl
      subst e9
      subst e8
      have hal : a9 ≤ 8 := by omega
      have hpl : p9 ≤ 500 := by omega
      have HRA : Hid (RdS w.heap.size w9 A9 xs) := OwnV.rds HOA.out (by have := hz2; omega)
      have HRP : Hid (RdS w.heap.size w9 P9 (ps)) := OwnV.rds HOP.out (by have := hz4; omega)
      have HTO : Hid (Below w.heap.size w w9) := HB1.out.trans (Gs.to_below (s := s) HGF.out (by omega) (by omega))
      have b0 := HX9_0.out.1.1
      have b1 := HX9_0.out.1.2.1
      have b2 := HX9_0.out.1.2.2
      have f0 := HX9_0.out.2.1
      have f1 := HX9_0.out.2.2.1
      have f2 := HX9_0.out.2.2.2
      have d0 := HX9_1.out.1.1
      have d1 := HX9_1.out.1.2.1
      have d2 := HX9_1.out.1.2.2
      have hne : ¬ w5.heap.size = w.heap.size := by omega
      have hne2 : ¬ w.heap.size = w5.heap.size := by omega
      clear hra hrp
      go_wp2
      go_region
      all_goals go_wp2
      all_goals refine bodyPost_ret (v := .tuple #[.slice P9 p9 pc, .slice A9 a9 ac, .agg #[.int .i64 c1, .int .i64 s1, .int .i64 h1], .int .i64 r, .int .i64 v, .int .i64 (20 + x), .int .i64 y2]) (by simp [results, Try.results49, go_sem, b0, b1, b2, f0, f1, f2, d0, d1, d2]) rfl ⟨P9, p9, pc, ps, A9, a9, ac, xs, c1, s1, h1, r, v, (20 + x), y2, rfl, hp9, hpc, hpl, (RdS.gs HRP.out (by repeat (first | with_reducible exact Gs.refl _ _ | with_reducible refine Gs.set ?_ | with_reducible refine Gs.drew ?_))).rd, ha9, hac, hal, (RdS.gs HRA.out (by repeat (first | with_reducible exact Gs.refl _ _ | with_reducible refine Gs.set ?_ | with_reducible refine Gs.drew ?_))).rd, (by repeat (first | with_reducible exact HTO.out | (refine Below.setCell ?_ ?_ _; rotate_left; ((try dsimp only); omega)) | with_reducible refine Below.drew ?_))⟩
    · have f1 : (k == 1) = false := by simpa using e1
      clear e1
      by_cases e2 : k = 2
      · have f2 : (k == 2) = true := by simpa using e2
        clear e2
        go_wp2_with fail
        refine (d09_any s _ (by repeat (first | with_reducible exact HS8.out | with_reducible refine Src.alloc ?_ _))).mono ?_
        rintro en w9 ⟨qv, qs, rfl, hown, qslen, hs, hg⟩
        have HS9 := Lib.hid hs
        have HG9 : Hid (Gs s w1 w9) := Gs.trans (by repeat (first | with_reducible exact HG8.out | with_reducible refine Gs.alloc ?_ _)) hg
        have HO9_0 : Hid (OwnV w9 w2.heap.size (av) (xs)) := OwnV.gs (by repeat (first | with_reducible exact HO8_0.out | with_reducible refine OwnV.alloc ?_ _)) hg lq2
        have HO9_1 : Hid (OwnV w9 w4.heap.size (pv) (ps)) := OwnV.gs (by repeat (first | with_reducible exact HO8_1.out | with_reducible refine OwnV.alloc ?_ _)) hg lq4
        have hz9 : w1.heap.size ≤ w9.heap.size := HG9.out.size
        have lq9 : s < w9.heap.size := HS9.out.lt
        have HX9_0 : Hid (BoxW w9 (w.heap.size) 0 0 0) := BoxW.gs (by repeat (first | with_reducible exact HX8_0.out | with_reducible refine BoxW.alloc ?_ _)) hg (by omega)
        have HX9_1 : Hid (BoxW w9 (w5.heap.size) c1 s1 h1) := BoxW.gs (by repeat (first | with_reducible exact HX8_1.out | with_reducible refine BoxW.alloc ?_ _)) hg (by omega)
        have HO9_2 := Lib.hid hown
        clear hs hg hown
        have HOA := Lib.hid ((by repeat (first | with_reducible exact HO9_0.out | with_reducible refine OwnV.alloc ?_ _)))
        have HOP := Lib.hid ((by repeat (first | with_reducible exact HO9_2.out | with_reducible refine OwnV.alloc ?_ _)))
        have HGF := Lib.hid (show Gs s w1 w9 from (by repeat (first | with_reducible exact HG9.out | with_reducible refine Gs.alloc ?_ _)))
        obtain ⟨A9, a9, ac, e9, ha9, hac, hra, _⟩ := HOA.out.sl
        obtain ⟨P9, p9, pc, e8, hp9, hpc, hrp, _⟩ := HOP.out.sl
        subst e9
        subst e8
        have hal : a9 ≤ 8 := by omega
        have hpl : p9 ≤ 500 := by omega
        have HRA : Hid (RdS w.heap.size w9 A9 xs) := OwnV.rds HOA.out (by have := hz2; omega)
        have HRP : Hid (RdS w.heap.size w9 P9 (qs)) := OwnV.rds HOP.out (by have := hz8; omega)
        have HTO : Hid (Below w.heap.size w w9) := HB1.out.trans (Gs.to_below (s := s) HGF.out (by omega) (by omega))
        have b0 := HX9_0.out.1.1
        have b1 := HX9_0.out.1.2.1
        have b2 := HX9_0.out.1.2.2
        have f0 := HX9_0.out.2.1
        have f1 := HX9_0.out.2.2.1
        have f2 := HX9_0.out.2.2.2
        have d0 := HX9_1.out.1.1
        have d1 := HX9_1.out.1.2.1
        have d2 := HX9_1.out.1.2.2
        have hne : ¬ w5.heap.size = w.heap.size := by omega
        have hne2 : ¬ w.heap.size = w5.heap.size := by omega
        clear hra hrp
        go_wp2
        go_region
        all_goals go_wp2
        all_goals refine bodyPost_ret (v := .tuple #[.slice P9 p9 pc, .slice A9 a9 ac, .agg #[.int .i64 c1, .int .i64 s1, .int .i64 h1], .int .i64 r, .int .i64 v, .int .i64 (20 + x), .int .i64 (60 + y)]) (by simp [results, Try.results49, go_sem, b0, b1, b2, f0, f1, f2, d0, d1, d2]) rfl ⟨P9, p9, pc, qs, A9, a9, ac, xs, c1, s1, h1, r, v, (20 + x), (60 + y), rfl, hp9, hpc, hpl, (RdS.gs HRP.out (by repeat (first | with_reducible exact Gs.refl _ _ | with_reducible refine Gs.set ?_ | with_reducible refine Gs.drew ?_))).rd, ha9, hac, hal, (RdS.gs HRA.out (by repeat (first | with_reducible exact Gs.refl _ _ | with_reducible refine Gs.set ?_ | with_reducible refine Gs.drew ?_))).rd, (by repeat (first | with_reducible exact HTO.out | (refine Below.setCell ?_ ?_ _; rotate_left; ((try dsimp only); omega)) | with_reducible refine Below.drew ?_))⟩
      · have f2 : (k == 2) = false := by simpa using e2
        clear e2
        have HOA := Lib.hid ((by repeat (first | with_reducible exact HO8_0.out | with_reducible refine OwnV.alloc ?_ _)))
        have HOP := Lib.hid ((by repeat (first | with_reducible exact HO8_1.out | with_reducible refine OwnV.alloc ?_ _)))
        have HGF := Lib.hid (show Gs s w1 w8 from (by repeat (first | with_reducible exact HG8.out | with_reducible refine Gs.alloc ?_ _)))
        obtain ⟨A9, a9, ac, e9, ha9, hac, hra, _⟩ := HOA.out.sl
        obtain ⟨P9, p9, pc, e8, hp9, hpc, hrp, _⟩ := HOP.out.sl
        subst e9
        subst e8
        have hal : a9 ≤ 8 := by omega
        have hpl : p9 ≤ 500 := by omega
        have HRA : Hid (RdS w.heap.size w8 A9 xs) := OwnV.rds HOA.out (by have := hz2; omega)
        have HRP : Hid (RdS w.heap.size w8 P9 (ps)) := OwnV.rds HOP.out (by have := hz4; omega)
        have HTO : Hid (Below w.heap.size w w8) := HB1.out.trans (Gs.to_below (s := s) HGF.out (by omega) (by omega))
        have b0 := HX8_0.out.1.1
        have b1 := HX8_0.out.1.2.1
        have b2 := HX8_0.out.1.2.2
        have f0 := HX8_0.out.2.1
        have f1 := HX8_0.out.2.2.1
        have f2 := HX8_0.out.2.2.2
        have d0 := HX8_1.out.1.1
        have d1 := HX8_1.out.1.2.1
        have d2 := HX8_1.out.1.2.2
        have hne : ¬ w5.heap.size = w.heap.size := by omega
        have hne2 : ¬ w.heap.size = w5.heap.size := by omega
        clear hra hrp
        go_wp2
        go_region
        all_goals go_wp2
        all_goals refine bodyPost_ret (v := .tuple #[.slice P9 p9 pc, .slice A9 a9 ac, .agg #[.int .i64 c1, .int .i64 s1, .int .i64 h1], .int .i64 r, .int .i64 v, .int .i64 (20 + x), .int .i64 (60 + y)]) (by simp [results, Try.results49, go_sem, b0, b1, b2, f0, f1, f2, d0, d1, d2]) rfl ⟨P9, p9, pc, ps, A9, a9, ac, xs, c1, s1, h1, r, v, (20 + x), (60 + y), rfl, hp9, hpc, hpl, (RdS.gs HRP.out (by repeat (first | with_reducible exact Gs.refl _ _ | with_reducible refine Gs.set ?_ | with_reducible refine Gs.drew ?_))).rd, ha9, hac, hal, (RdS.gs HRA.out (by repeat (first | with_reducible exact Gs.refl _ _ | with_reducible refine Gs.set ?_ | with_reducible refine Gs.drew ?_))).rd, (by repeat (first | with_reducible exact HTO.out | (refine Below.setCell ?_ ?_ _; rotate_left; ((try dsimp only); omega)) | with_reducible refine Below.drew ?_))⟩
end Go.Proofs.Ytfmhbphbgdijpaa
