/- walks: clear echoes, signals to be searched -/
import Derived.Test.YtgfhmihnnjcagaaDrW7
set_option linter.unusedVariables false
set_option linter.unusedSimpArgs false
namespace Go.Proofs.Ytgfhmihnnjcagaa
open Go.RowKit

set_option maxRecDepth 100000 in
set_option maxHeartbeats 8000000 in
theorem dDl_any (A : Option Addr) (n c : Nat) (w : World) (hr : RdB w A n) (hm : n ≤ 4096) : Calls Try.prog 72 #[.slice A n c] w (MsDraw w) := by
  go_enter Try.func72, Try.ntmps72
  go_wp2_with fail
  refine (from_any A n c _ hr hm).mono ?_
  rintro en w1 ⟨s, rfl, hs1, hS1, hb1⟩
  have ls0 := hS1.lt
  have HB1 := Lib.hid hb1
  have hz1 := hb1.size
  clear hr hb1
  go_wp2_with fail
  refine (d10_any s _ (by repeat (first | with_reducible exact hS1 | with_reducible refine Src.alloc ?_ _))).mono ?_
  rintro en w2 ⟨A2, n2, c2, B2, m2, d2, xs, ps, rfl, q1, q2, q3, q4, q5, q6, q7, q8, q9, q10, hs, hg⟩
  have Q4 := Lib.hid q4.rd
  have Q9 := Lib.hid q9.rd
  have Q5 := Lib.hid q5
  have Q10 := Lib.hid q10
  have Q1 := Lib.hid q1
  have Q6 := Lib.hid q6
  have HG := Lib.hid hg
  clear q4 q9 q5 q10 q1 q6 hs hg
  go_wp2
  go_ret2
  exact ⟨A2, n2, c2, B2, m2, d2, xs, ps, rfl, Q1.out, q2, q3, Q4.out, Q5.out, Q6.out, q7, q8, Q9.out, Q10.out, HB1.out.trans (Gs.to_below (s := s) HG.out hs1 hz1)⟩

def CeDraw (w : World) (en : Ending) (w9 : World) : Prop := ∃ (v : Value) (xs : List Int) (x y : Int), en = .returned (.tuple #[v, .int .i64 x, .int .i64 y]) ∧ OwnV w9 w.heap.size v xs ∧ xs.length ≤ 500 ∧ Below w.heap.size w w9
def FeDraw (w : World) (en : Ending) (w9 : World) : Prop := ∃ (A : Option Addr) (n c : Nat) (B : Option Addr) (m d : Nat) (xs ps : List Int) (x y : Int), en = .returned (.tuple #[.slice A n c, .slice B m d, .int .i64 x, .int .i64 y]) ∧ xs.length = n ∧ n ≤ c ∧ n ≤ 40 ∧ Rd w9 A xs ∧ (A = none → n = 0 ∧ c = 0) ∧ ps.length = m ∧ m ≤ d ∧ m ≤ 8 ∧ Rd w9 B ps ∧ (B = none → m = 0 ∧ d = 0) ∧ Below w.heap.size w w9

set_option maxRecDepth 100000 in
set_option maxHeartbeats 8000000 in
theorem dCe_any (A : Option Addr) (n c : Nat) (w : World) (hr : RdB w A n) (hm : n ≤ 4096) : Calls Try.prog 70 #[.slice A n c] w (CeDraw w) := by
  go_enter Try.func70, Try.ntmps70
  go_wp2_with fail
  refine (from_any A n c _ hr hm).mono ?_
  rintro en w1 ⟨s, rfl, hs1, hS1, hb1⟩
  have ls0 := hS1.lt
  have HB1 := Lib.hid hb1
  have hz1 := hb1.size
  clear hr hb1
  go_wp2_with fail
  refine (next_any s _ _ (by repeat (first | with_reducible exact hS1 | with_reducible refine Src.alloc ?_ _))).mono ?_
  rintro en w2 ⟨x, rfl, x0, xb, hs, hg⟩
  have HS2 := Lib.hid hs
  have HG2 : Hid (Gs s w1 w2) := Gs.trans (by repeat (first | with_reducible exact (Gs.refl s w1) | with_reducible refine Gs.alloc ?_ _)) hg
  have hz2 : w1.heap.size ≤ w2.heap.size := HG2.out.size
  have lq2 : s < w2.heap.size := HS2.out.lt
  clear hs hg
  go_wp2_with fail
  refine (next_any s _ _ (by repeat (first | with_reducible exact HS2.out | with_reducible refine Src.alloc ?_ _))).mono ?_
  rintro en w3 ⟨y, rfl, y0, yb, hs, hg⟩
  have HS3 := Lib.hid hs
  have HG3 : Hid (Gs s w1 w3) := Gs.trans (by repeat (first | with_reducible exact HG2.out | with_reducible refine Gs.alloc ?_ _)) hg
  have hz3 : w1.heap.size ≤ w3.heap.size := HG3.out.size
  have lq3 : s < w3.heap.size := HS3.out.lt
  clear hs hg
  go_wp2_with fail
  refine (next_any s _ _ (by repeat (first | with_reducible exact HS3.out | with_reducible refine Src.alloc ?_ _))).mono ?_
  rintro en w4 ⟨k, rfl, k0, kb, hs, hg⟩
  have HS4 := Lib.hid hs
  have HG4 : Hid (Gs s w1 w4) := Gs.trans (by repeat (first | with_reducible exact HG3.out | with_reducible refine Gs.alloc ?_ _)) hg
  have hz4 : w1.heap.size ≤ w4.heap.size := HG4.out.size
  have lq4 : s < w4.heap.size := HS4.out.lt
  clear hs hg
  by_cases e0 : k = 0
  · have f0 : (k == 0) = true := by simpa using e0
    clear e0
    go_wp2_with fail
    refine (pick_any s _ 3 3 [1000, 1001, (-1000)] _ (by repeat (first | with_reducible exact HS4.out | with_reducible refine Src.alloc ?_ _)) rfl (by decide) (by decide) (Rd.new2 _ _ [1000, 1001, (-1000)] (by first | (simp only [World.size_alloc]; done) | (go_size; done))) (fun b off e => by cases e; omega)).mono ?_
    rintro en w5 ⟨g, rfl, gm, hs, hg⟩
    have HS5 := Lib.hid hs
    have HG5 : Hid (Gs s w1 w5) := Gs.trans (by repeat (first | with_reducible exact HG4.out | with_reducible refine Gs.alloc ?_ _)) hg
    have hz5 : w1.heap.size ≤ w5.heap.size := HG5.out.size
    have lq5 : s < w5.heap.size := HS5.out.lt
    clear hs hg
    go_wp2_with fail
    refine (pick_any s _ 4 4 [(-1), 0, 1000, 1001] _ (by repeat (first | with_reducible exact HS5.out | with_reducible refine Src.alloc ?_ _)) rfl (by decide) (by decide) (Rd.new2 _ _ [(-1), 0, 1000, 1001] (by first | (simp only [World.size_alloc]; done) | (go_size; done))) (fun b off e => by cases e; omega)).mono ?_
    rintro en w6 ⟨e, rfl, em, hs, hg⟩
    have HS6 := Lib.hid hs
    have HG6 : Hid (Gs s w1 w6) := Gs.trans (by repeat (first | with_reducible exact HG5.out | with_reducible refine Gs.alloc ?_ _)) hg
    have hz6 : w1.heap.size ≤ w6.heap.size := HG6.out.size
    have lq6 : s < w6.heap.size := HS6.out.lt
    clear hs hg
    go_wp2_with fail
    refine (next_any s _ _ (by repeat (first | with_reducible exact HS6.out | with_reducible refine Src.alloc ?_ _))).mono ?_
    rintro en w7 ⟨m, rfl, m0, mb, hs, hg⟩
    have HS7 := Lib.hid hs
    have HG7 : Hid (Gs s w1 w7) := Gs.trans (by repeat (first | with_reducible exact HG6.out | with_reducible refine Gs.alloc ?_ _)) hg
    have hz7 : w1.heap.size ≤ w7.heap.size := HG7.out.size
    have lq7 : s < w7.heap.size := HS7.out.lt
    clear hs hg
    by_cases e0 : m = 0
    · have f0 : (m == 0) = true := by simpa using e0
      clear e0
      go_wp2_with fail
      refine (d09_any s _ (by repeat (first | with_reducible exact HS7.out | with_reducible refine Src.alloc ?_ _))).mono ?_
      rintro en w8 ⟨v, xs, rfl, hown, xslen, hs, hg⟩
      have HS8 := Lib.hid hs
      have HG8 : Hid (Gs s w1 w8) := Gs.trans (by repeat (first | with_reducible exact HG7.out | with_reducible refine Gs.alloc ?_ _)) hg
      have hz8 : w1.heap.size ≤ w8.heap.size := HG8.out.size
      have lq8 : s < w8.heap.size := HS8.out.lt
      have HO8_0 := Lib.hid hown
      clear hs hg hown
      go_wp2
      go_ret3
      exact ⟨v, xs, g, e, rfl, OwnV.low (by repeat (first | with_reducible exact HO8_0.out | with_reducible refine OwnV.alloc ?_ _)) (Nat.le_trans hz1 hz7), by omega, HB1.out.trans (Gs.to_below (s := s) (by repeat (first | with_reducible exact HG8.out | with_reducible refine Gs.alloc ?_ _)) hs1 hz1)⟩
    · have f0 : (m == 0) = false := by simpa using e0
      clear e0
      go_wp2_with fail
      refine (dPulse_any s _ (by repeat (first | with_reducible exact HS7.out | with_reducible refine Src.alloc ?_ _))).mono ?_
      rintro en w8 ⟨v, xs, rfl, hown, xslen, xl8, hs, hg⟩
      have HS8 := Lib.hid hs
      have HG8 : Hid (Gs s w1 w8) := Gs.trans (by repeat (first | with_reducible exact HG7.out | with_reducible refine Gs.alloc ?_ _)) hg
      have hz8 : w1.heap.size ≤ w8.heap.size := HG8.out.size
      have lq8 : s < w8.heap.size := HS8.out.lt
      have HO8_0 := Lib.hid hown
      clear hs hg hown
      go_wp2
      go_ret3
      exact ⟨v, xs, g, e, rfl, OwnV.low (by repeat (first | with_reducible exact HO8_0.out | with_reducible refine OwnV.alloc ?_ _)) (Nat.le_trans hz1 hz7), by omega, HB1.out.trans (Gs.to_below (s := s) (by repeat (first | with_reducible exact HG8.out | with_reducible refine Gs.alloc ?_ _)) hs1 hz1)⟩
  · have f0 : (k == 0) = false := by simpa using e0
    clear e0
    go_wp2_with fail
    refine (next_any s _ _ (by repeat (first | with_reducible exact HS4.out | with_reducible refine Src.alloc ?_ _))).mono ?_
    rintro en w5 ⟨m, rfl, m0, mb, hs, hg⟩
    have HS5 := Lib.hid hs
    have HG5 : Hid (Gs s w1 w5) := Gs.trans (by repeat (first | with_reducible exact HG4.out | with_reducible refine Gs.alloc ?_ _)) hg
    have hz5 : w1.heap.size ≤ w5.heap.size := HG5.out.size
    have lq5 : s < w5.heap.size := HS5.out.lt
    clear hs hg
    by_cases e0 : m = 0
    · have f0 : (m == 0) = true := by simpa using e0
      clear e0
      go_wp2_with fail
      refine (d09_any s _ (by repeat (first | with_reducible exact HS5.out | with_reducible refine Src.alloc ?_ _))).mono ?_
      rintro en w6 ⟨v, xs, rfl, hown, xslen, hs, hg⟩
      have HS6 := Lib.hid hs
      have HG6 : Hid (Gs s w1 w6) := Gs.trans (by repeat (first | with_reducible exact HG5.out | with_reducible refine Gs.alloc ?_ _)) hg
      have hz6 : w1.heap.size ≤ w6.heap.size := HG6.out.size
      have lq6 : s < w6.heap.size := HS6.out.lt
      have HO6_0 := Lib.hid hown
      clear hs hg hown
      go_wp2
      go_ret3
      exact ⟨v, xs, (x - 20), y, rfl, OwnV.low (by repeat (first | with_reducible exact HO6_0.out | with_reducible refine OwnV.alloc ?_ _)) (Nat.le_trans hz1 hz5), by omega, HB1.out.trans (Gs.to_below (s := s) (by repeat (first | with_reducible exact HG6.out | with_reducible refine Gs.alloc ?_ _)) hs1 hz1)⟩
    · have f0 : (m == 0) = false := by simpa using e0
      clear e0
      go_wp2_with fail
      refine (dPulse_any s _ (by repeat (first | with_reducible exact HS5.out | with_reducible refine Src.alloc ?_ _))).mono ?_
      rintro en w6 ⟨v, xs, rfl, hown, xslen, xl8, hs, hg⟩
      have HS6 := Lib.hid hs
      have HG6 : Hid (Gs s w1 w6) := Gs.trans (by repeat (first | with_reducible exact HG5.out | with_reducible refine Gs.alloc ?_ _)) hg
      have hz6 : w1.heap.size ≤ w6.heap.size := HG6.out.size
      have lq6 : s < w6.heap.size := HS6.out.lt
      have HO6_0 := Lib.hid hown
      clear hs hg hown
      go_wp2
      go_ret3
      exact ⟨v, xs, (x - 20), y, rfl, OwnV.low (by repeat (first | with_reducible exact HO6_0.out | with_reducible refine OwnV.alloc ?_ _)) (Nat.le_trans hz1 hz5), by omega, HB1.out.trans (Gs.to_below (s := s) (by repeat (first | with_reducible exact HG6.out | with_reducible refine Gs.alloc ?_ _)) hs1 hz1)⟩

set_option maxRecDepth 100000 in
set_option maxHeartbeats 8000000 in
theorem dFe_any (A : Option Addr) (n c : Nat) (w : World) (hr : RdB w A n) (hm : n ≤ 4096) : Calls Try.prog 71 #[.slice A n c] w (FeDraw w) := by
  go_enter Try.func71, Try.ntmps71
  go_wp2_with fail
  refine (from_any A n c _ hr hm).mono ?_
  rintro en w1 ⟨s, rfl, hs1, hS1, hb1⟩
  have ls0 := hS1.lt
  have HB1 := Lib.hid hb1
  have hz1 := hb1.size
  clear hr hb1
  go_wp2_with fail
  refine (d10_any s _ (by repeat (first | with_reducible exact hS1 | with_reducible refine Src.alloc ?_ _))).mono ?_
  rintro en w2 ⟨A2, n2, c2, B2, m2, d2, xs, ps, rfl, q1, q2, q3, q4, q5, q6, q7, q8, q9, q10, hs, hg⟩
  have Q4 := Lib.hid q4
  have Q9 := Lib.hid q9
  have Q5 := Lib.hid q5
  have Q10 := Lib.hid q10
  have Q1 := Lib.hid q1
  have Q6 := Lib.hid q6
  have HG2 := Lib.hid hg
  have HS2 := Lib.hid hs
  have lq2 : s < w2.heap.size := hs.lt
  clear q4 q9 q5 q10 q1 q6 hs hg
  go_wp2_with fail
  refine (next_any s _ _ (by repeat (first | with_reducible exact HS2.out | with_reducible refine Src.alloc ?_ _))).mono ?_
  rintro en w3 ⟨x, rfl, x0, xb, hs, hg⟩
  have HS3 := Lib.hid hs
  have HG3 : Hid (Gs s w1 w3) := Gs.trans (by repeat (first | with_reducible exact HG2.out | with_reducible refine Gs.alloc ?_ _)) hg
  have hz3 : w1.heap.size ≤ w3.heap.size := HG3.out.size
  have lq3 : s < w3.heap.size := HS3.out.lt
  have HK3 : Hid (Gs s w2 w3) := Gs.trans (by repeat (first | with_reducible exact Gs.refl s w2 | with_reducible refine Gs.alloc ?_ _)) hg
  clear hs hg
  go_wp2_with fail
  refine (next_any s _ _ (by repeat (first | with_reducible exact HS3.out | with_reducible refine Src.alloc ?_ _))).mono ?_
  rintro en w4 ⟨y, rfl, y0, yb, hs, hg⟩
  have HS4 := Lib.hid hs
  have HG4 : Hid (Gs s w1 w4) := Gs.trans (by repeat (first | with_reducible exact HG3.out | with_reducible refine Gs.alloc ?_ _)) hg
  have hz4 : w1.heap.size ≤ w4.heap.size := HG4.out.size
  have lq4 : s < w4.heap.size := HS4.out.lt
  have HK4 : Hid (Gs s w2 w4) := Gs.trans (by repeat (first | with_reducible exact HK3.out | with_reducible refine Gs.alloc ?_ _)) hg
  clear hs hg
  go_wp2_with fail
  refine (next_any s _ _ (by repeat (first | with_reducible exact HS4.out | with_reducible refine Src.alloc ?_ _))).mono ?_
  rintro en w5 ⟨z, rfl, z0, zb, hs, hg⟩
  have HS5 := Lib.hid hs
  have HG5 : Hid (Gs s w1 w5) := Gs.trans (by repeat (first | with_reducible exact HG4.out | with_reducible refine Gs.alloc ?_ _)) hg
  have hz5 : w1.heap.size ≤ w5.heap.size := HG5.out.size
  have lq5 : s < w5.heap.size := HS5.out.lt
  have HK5 : Hid (Gs s w2 w5) := Gs.trans (by repeat (first | with_reducible exact HK4.out | with_reducible refine Gs.alloc ?_ _)) hg
  clear hs hg
  by_cases e0 : z = 0
  · have f0 : (z == 0) = true := by simpa using e0
    clear e0
    go_wp2_with fail
    refine (pick_any s _ 2 2 [0, 1000000000001] _ (by repeat (first | with_reducible exact HS5.out | with_reducible refine Src.alloc ?_ _)) rfl (by decide) (by decide) (Rd.new2 _ _ [0, 1000000000001] (by first | (simp only [World.size_alloc]; done) | (go_size; done))) (fun b off e => by cases e; omega)).mono ?_
    rintro en w6 ⟨x2, rfl, x2m, hs, hg⟩
    have HS6 := Lib.hid hs
    have HG6 : Hid (Gs s w1 w6) := Gs.trans (by repeat (first | with_reducible exact HG5.out | with_reducible refine Gs.alloc ?_ _)) hg
    have hz6 : w1.heap.size ≤ w6.heap.size := HG6.out.size
    have lq6 : s < w6.heap.size := HS6.out.lt
    have HK6 : Hid (Gs s w2 w6) := Gs.trans (by repeat (first | with_reducible exact HK5.out | with_reducible refine Gs.alloc ?_ _)) hg
    clear hs hg
    have HA9 := Lib.hid (RdS.gs Q4.out (HK6.out))
    have HP9 := Lib.hid (RdS.gs Q9.out (HK6.out))
    go_wp2
    (try simp only [Exit.inBlock, Exit.then])
    refine bodyPost_ret (res_four rfl _ _ _) rfl ?_
    exact ⟨A2, n2, c2, B2, m2, d2, xs, ps, x2, y, rfl, Q1.out, q2, q3, HA9.out.rd, Q5.out, Q6.out, q7, q8, HP9.out.rd, Q10.out, HB1.out.trans (Gs.to_below (s := s) (by repeat (first | with_reducible exact HG6.out | with_reducible refine Gs.alloc ?_ _)) hs1 hz1)⟩
  · have f0 : (z == 0) = false := by simpa using e0
    clear e0
    by_cases e1 : z = 1
    · have f1 : (z == 1) = true := by simpa using e1
      clear e1
      go_wp2_with fail
      refine (pick_any s _ 3 3 [(-1), 10, 11] _ (by repeat (first | with_reducible exact HS5.out | with_reducible refine Src.alloc ?_ _)) rfl (by decide) (by decide) (Rd.new2 _ _ [(-1), 10, 11] (by first | (simp only [World.size_alloc]; done) | (go_size; done))) (fun b off e => by cases e; omega)).mono ?_
      rintro en w6 ⟨y2, rfl, y2m, hs, hg⟩
      have HS6 := Lib.hid hs
      have HG6 : Hid (Gs s w1 w6) := Gs.trans (by repeat (first | with_reducible exact HG5.out | with_reducible refine Gs.alloc ?_ _)) hg
      have hz6 : w1.heap.size ≤ w6.heap.size := HG6.out.size
      have lq6 : s < w6.heap.size := HS6.out.lt
      have HK6 : Hid (Gs s w2 w6) := Gs.trans (by repeat (first | with_reducible exact HK5.out | with_reducible refine Gs.alloc ?_ _)) hg
      clear hs hg
      have HA9 := Lib.hid (RdS.gs Q4.out (HK6.out))
      have HP9 := Lib.hid (RdS.gs Q9.out (HK6.out))
      go_wp2
      (try simp only [Exit.inBlock, Exit.then])
      refine bodyPost_ret (res_four rfl _ _ _) rfl ?_
      exact ⟨A2, n2, c2, B2, m2, d2, xs, ps, (1 + x), y2, rfl, Q1.out, q2, q3, HA9.out.rd, Q5.out, Q6.out, q7, q8, HP9.out.rd, Q10.out, HB1.out.trans (Gs.to_below (s := s) (by repeat (first | with_reducible exact HG6.out | with_reducible refine Gs.alloc ?_ _)) hs1 hz1)⟩
    · have f1 : (z == 1) = false := by simpa using e1
      clear e1
      have HA9 := Lib.hid (RdS.gs Q4.out (HK5.out))
      have HP9 := Lib.hid (RdS.gs Q9.out (HK5.out))
      go_wp2
      (try simp only [Exit.inBlock, Exit.then])
      refine bodyPost_ret (res_four rfl _ _ _) rfl ?_
      exact ⟨A2, n2, c2, B2, m2, d2, xs, ps, (1 + x), y, rfl, Q1.out, q2, q3, HA9.out.rd, Q5.out, Q6.out, q7, q8, HP9.out.rd, Q10.out, HB1.out.trans (Gs.to_below (s := s) (by repeat (first | with_reducible exact HG5.out | with_reducible refine Gs.alloc ?_ _)) hs1 hz1)⟩
end Go.Proofs.Ytgfhmihnnjcagaa
