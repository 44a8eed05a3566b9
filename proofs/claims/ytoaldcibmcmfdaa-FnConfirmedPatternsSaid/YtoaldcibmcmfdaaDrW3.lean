/- walks: what the laws draw -/
import Derived.Test.YtoaldcibmcmfdaaDrW2
set_option linter.unusedVariables false
set_option linter.unusedSimpArgs false
namespace Go.Proofs.Ytoaldcibmcmfdaa
open Go.RowKit
set_option maxHeartbeats 8000000 in
theorem dPart_any (s : Nat) (w : World) (h : Src w s) : Calls Try.prog 64 #[.pointer (some ⟨s, 0, none⟩)] w (TwoN s w) := by
  go_enter Try.func64, Try.ntmps64
  have ls0 : s < w.heap.size := h.lt
  go_wp2_with fail
  refine (next_any s _ _ (by repeat (first | with_reducible exact h | with_reducible refine Src.alloc ?_ _ | with_reducible refine Src.set ?_ (by omega) (by omega) | with_reducible refine Src.drewN ?_ _ | with_reducible refine Src.drew ?_))).mono ?_
  rintro en w1 ⟨x1, rfl, a1, b1, hS1, hg1⟩
  have hT1 : Gs s w w1 := Gs.trans (by repeat (first | with_reducible exact Gs.refl _ _ | with_reducible exact Gs.refl _ _ | with_reducible refine Gs.alloc ?_ _ | with_reducible refine Gs.set_new ?_ (by omega) | with_reducible refine Gs.drewN ?_ _ | with_reducible refine Gs.drew ?_)) hg1
  have hZ1 := hT1.size
  have ls1 := hS1.lt
  clear a1 b1
  go_wp2_with fail
  refine (next_any s _ _ (by repeat (first | with_reducible exact hS1 | with_reducible refine Src.alloc ?_ _ | with_reducible refine Src.set ?_ (by omega) (by omega) | with_reducible refine Src.drewN ?_ _ | with_reducible refine Src.drew ?_))).mono ?_
  rintro en w2 ⟨x2, rfl, a1, b1, hS2, hg2⟩
  have hT2 : Gs s w w2 := Gs.trans (by repeat (first | with_reducible exact hT1 | with_reducible exact Gs.refl _ _ | with_reducible refine Gs.alloc ?_ _ | with_reducible refine Gs.set_new ?_ (by omega) | with_reducible refine Gs.drewN ?_ _ | with_reducible refine Gs.drew ?_)) hg2
  have hZ2 := hT2.size
  have ls2 := hS2.lt
  clear a1 b1
  by_cases e0 : x2 = 0
  · have e1 : (x2 == 0) = true := by simpa using e0
    clear e0
    go_wp2_with fail
    refine (pick_any s _ 4 4 [(-1), 0, 1, 1000] _ (by repeat (first | with_reducible exact hS2 | with_reducible refine Src.alloc ?_ _ | with_reducible refine Src.set ?_ (by omega) (by omega) | with_reducible refine Src.drewN ?_ _ | with_reducible refine Src.drew ?_)) rfl (by decide) (by decide) (Rd.new2 _ _ [(-1), 0, 1, 1000] (by first | (simp only [World.size_alloc]; done) | (go_size; done))) (fun b off e => by cases e; omega)).mono ?_
    rintro en w3 ⟨y1, rfl, hy, hS3, hg3⟩
    have hT3 : Gs s w w3 := Gs.trans (by repeat (first | with_reducible exact hT2 | with_reducible exact Gs.refl _ _ | with_reducible refine Gs.alloc ?_ _ | with_reducible refine Gs.set_new ?_ (by omega) | with_reducible refine Gs.drewN ?_ _ | with_reducible refine Gs.drew ?_)) hg3
    have hZ3 := hT3.size
    have ls3 := hS3.lt
    clear hy
    go_wp2_with fail
    refine (pick_any s _ 4 4 [0, 1, 1000, 1001] _ (by repeat (first | with_reducible exact hS3 | with_reducible refine Src.alloc ?_ _ | with_reducible refine Src.set ?_ (by omega) (by omega) | with_reducible refine Src.drewN ?_ _ | with_reducible refine Src.drew ?_)) rfl (by decide) (by decide) (Rd.new2 _ _ [0, 1, 1000, 1001] (by first | (simp only [World.size_alloc]; done) | (go_size; done))) (fun b off e => by cases e; omega)).mono ?_
    rintro en w4 ⟨y2, rfl, hy, hS4, hg4⟩
    have hT4 : Gs s w w4 := Gs.trans (by repeat (first | with_reducible exact hT3 | with_reducible exact Gs.refl _ _ | with_reducible refine Gs.alloc ?_ _ | with_reducible refine Gs.set_new ?_ (by omega) | with_reducible refine Gs.drewN ?_ _ | with_reducible refine Gs.drew ?_)) hg4
    have hZ4 := hT4.size
    have ls4 := hS4.lt
    clear hy
    go_wp2_with (go_ret2; exact ⟨_, _, rfl, (by repeat (first | with_reducible exact hS4 | with_reducible refine Src.alloc ?_ _ | with_reducible refine Src.set ?_ (by omega) (by omega) | with_reducible refine Src.drewN ?_ _ | with_reducible refine Src.drew ?_)), (by repeat (first | with_reducible exact hT4 | with_reducible exact Gs.refl _ _ | with_reducible refine Gs.alloc ?_ _ | with_reducible refine Gs.set_new ?_ (by omega) | with_reducible refine Gs.drewN ?_ _ | with_reducible refine Gs.drew ?_))⟩)
  · have e1 : (x2 == 0) = false := by simpa using e0
    clear e0
    go_wp2_with fail
    refine (next_any s _ _ (by repeat (first | with_reducible exact hS2 | with_reducible refine Src.alloc ?_ _ | with_reducible refine Src.set ?_ (by omega) (by omega) | with_reducible refine Src.drewN ?_ _ | with_reducible refine Src.drew ?_))).mono ?_
    rintro en w3 ⟨y1, rfl, a1, b1, hS3, hg3⟩
    have hT3 : Gs s w w3 := Gs.trans (by repeat (first | with_reducible exact hT2 | with_reducible exact Gs.refl _ _ | with_reducible refine Gs.alloc ?_ _ | with_reducible refine Gs.set_new ?_ (by omega) | with_reducible refine Gs.drewN ?_ _ | with_reducible refine Gs.drew ?_)) hg3
    have hZ3 := hT3.size
    have ls3 := hS3.lt
    clear a1 b1
    go_wp2_with (go_ret2; exact ⟨_, _, rfl, (by repeat (first | with_reducible exact hS3 | with_reducible refine Src.alloc ?_ _ | with_reducible refine Src.set ?_ (by omega) (by omega) | with_reducible refine Src.drewN ?_ _ | with_reducible refine Src.drew ?_)), (by repeat (first | with_reducible exact hT3 | with_reducible exact Gs.refl _ _ | with_reducible refine Gs.alloc ?_ _ | with_reducible refine Gs.set_new ?_ (by omega) | with_reducible refine Gs.drewN ?_ _ | with_reducible refine Gs.drew ?_))⟩)
def LeastDraw (w : World) (en : Ending) (w9 : World) : Prop := ∃ x y z u : Int, en = .returned (.tuple #[.int .i64 x, .int .i64 y, .int .i64 z, .int .i64 u]) ∧ Below w.heap.size w w9
set_option maxHeartbeats 8000000 in
theorem dLeast_any (A : Option Addr) (n c : Nat) (w : World) (hr : RdB w A n) (hm : n ≤ 4096) : Calls Try.prog 34 #[.slice A n c] w (LeastDraw w) := by
  go_enter Try.func34, Try.ntmps34
  go_wp2_with fail
  refine (from_any A n c _ (RdB.below hr (by repeat (first | with_reducible exact Below.refl _ _ | with_reducible exact Below.refl _ _ | with_reducible refine Below.alloc ?_ (by (try simp only [World.size_alloc, World.size_drew, size_drewN, World.size_setCell]); omega) _ | with_reducible refine Below.setCell ?_ (by (try dsimp only); omega) _ | with_reducible refine below_drewN ?_ _ | with_reducible refine Below.drew ?_))) hm).mono ?_
  rintro en w1 ⟨s, rfl, hs1, hS1, hb1⟩
  (try simp only [World.size_alloc, World.size_drew, size_drewN, World.size_setCell] at hs1)
  have hT1 : Below w.heap.size w w1 := Below.trans (by repeat (first | with_reducible exact Below.refl _ _ | with_reducible exact Below.refl _ _ | with_reducible refine Below.alloc ?_ (by (try simp only [World.size_alloc, World.size_drew, size_drewN, World.size_setCell]); omega) _ | with_reducible refine Below.setCell ?_ (by (try dsimp only); omega) _ | with_reducible refine below_drewN ?_ _ | with_reducible refine Below.drew ?_)) (hb1.mono (by (try simp only [World.size_alloc, World.size_drew, size_drewN, World.size_setCell]); omega))
  have hZ1 := hT1.size
  have ls1 := hS1.lt
  go_wp2_with fail
  refine (d13_any s _ (by repeat (first | with_reducible exact hS1 | with_reducible refine Src.alloc ?_ _ | with_reducible refine Src.set ?_ (by omega) (by omega) | with_reducible refine Src.drewN ?_ _ | with_reducible refine Src.drew ?_))).mono ?_
  rintro en w2 ⟨x1, x2, rfl, hS2, hg2⟩
  have hT2 : Below w.heap.size w w2 := Below.trans (by repeat (first | with_reducible exact hT1 | with_reducible exact Below.refl _ _ | with_reducible refine Below.alloc ?_ (by (try simp only [World.size_alloc, World.size_drew, size_drewN, World.size_setCell]); omega) _ | with_reducible refine Below.setCell ?_ (by (try dsimp only); omega) _ | with_reducible refine below_drewN ?_ _ | with_reducible refine Below.drew ?_)) (hg2.to_below (by omega) (by (try simp only [World.size_alloc, World.size_drew, size_drewN, World.size_setCell]); omega))
  have hZ2 := hT2.size
  have ls2 := hS2.lt
  go_wp2_with fail
  refine (dPart_any s _ (by repeat (first | with_reducible exact hS2 | with_reducible refine Src.alloc ?_ _ | with_reducible refine Src.set ?_ (by omega) (by omega) | with_reducible refine Src.drewN ?_ _ | with_reducible refine Src.drew ?_))).mono ?_
  rintro en w3 ⟨y1, y2, rfl, hS3, hg3⟩
  have hT3 : Below w.heap.size w w3 := Below.trans (by repeat (first | with_reducible exact hT2 | with_reducible exact Below.refl _ _ | with_reducible refine Below.alloc ?_ (by (try simp only [World.size_alloc, World.size_drew, size_drewN, World.size_setCell]); omega) _ | with_reducible refine Below.setCell ?_ (by (try dsimp only); omega) _ | with_reducible refine below_drewN ?_ _ | with_reducible refine Below.drew ?_)) (hg3.to_below (by omega) (by (try simp only [World.size_alloc, World.size_drew, size_drewN, World.size_setCell]); omega))
  have hZ3 := hT3.size
  have ls3 := hS3.lt
  go_wp2
  refine bodyPost_ret (v := .tuple #[.int .i64 x1, .int .i64 x2, .int .i64 y1, .int .i64 y2]) (by simp [results, Try.results34, go_sem]) rfl ⟨x1, x2, y1, y2, rfl, (by repeat (first | with_reducible exact hT3 | with_reducible exact Below.refl _ _ | with_reducible refine Below.alloc ?_ (by (try simp only [World.size_alloc, World.size_drew, size_drewN, World.size_setCell]); omega) _ | with_reducible refine Below.setCell ?_ (by (try dsimp only); omega) _ | with_reducible refine below_drewN ?_ _ | with_reducible refine Below.drew ?_))⟩
def BestDraw (w : World) (en : Ending) (w9 : World) : Prop := ∃ x y z : Int, en = .returned (.tuple #[.int .i64 x, .int .i64 y, .int .i64 z]) ∧ Below w.heap.size w w9
set_option maxHeartbeats 8000000 in
theorem dBest_any (A : Option Addr) (n c : Nat) (w : World) (hr : RdB w A n) (hm : n ≤ 4096) : Calls Try.prog 35 #[.slice A n c] w (BestDraw w) := by
  go_enter Try.func35, Try.ntmps35
  go_wp2_with fail
  refine (from_any A n c _ (RdB.below hr (by repeat (first | with_reducible exact Below.refl _ _ | with_reducible exact Below.refl _ _ | with_reducible refine Below.alloc ?_ (by (try simp only [World.size_alloc, World.size_drew, size_drewN, World.size_setCell]); omega) _ | with_reducible refine Below.setCell ?_ (by (try dsimp only); omega) _ | with_reducible refine below_drewN ?_ _ | with_reducible refine Below.drew ?_))) hm).mono ?_
  rintro en w1 ⟨s, rfl, hs1, hS1, hb1⟩
  (try simp only [World.size_alloc, World.size_drew, size_drewN, World.size_setCell] at hs1)
  have hT1 : Below w.heap.size w w1 := Below.trans (by repeat (first | with_reducible exact Below.refl _ _ | with_reducible exact Below.refl _ _ | with_reducible refine Below.alloc ?_ (by (try simp only [World.size_alloc, World.size_drew, size_drewN, World.size_setCell]); omega) _ | with_reducible refine Below.setCell ?_ (by (try dsimp only); omega) _ | with_reducible refine below_drewN ?_ _ | with_reducible refine Below.drew ?_)) (hb1.mono (by (try simp only [World.size_alloc, World.size_drew, size_drewN, World.size_setCell]); omega))
  have hZ1 := hT1.size
  have ls1 := hS1.lt
  go_wp2_with fail
  refine (d13_any s _ (by repeat (first | with_reducible exact hS1 | with_reducible refine Src.alloc ?_ _ | with_reducible refine Src.set ?_ (by omega) (by omega) | with_reducible refine Src.drewN ?_ _ | with_reducible refine Src.drew ?_))).mono ?_
  rintro en w2 ⟨x1, x2, rfl, hS2, hg2⟩
  have hT2 : Below w.heap.size w w2 := Below.trans (by repeat (first | with_reducible exact hT1 | with_reducible exact Below.refl _ _ | with_reducible refine Below.alloc ?_ (by (try simp only [World.size_alloc, World.size_drew, size_drewN, World.size_setCell]); omega) _ | with_reducible refine Below.setCell ?_ (by (try dsimp only); omega) _ | with_reducible refine below_drewN ?_ _ | with_reducible refine Below.drew ?_)) (hg2.to_below (by omega) (by (try simp only [World.size_alloc, World.size_drew, size_drewN, World.size_setCell]); omega))
  have hZ2 := hT2.size
  have ls2 := hS2.lt
  go_wp2_with fail
  refine (d13_any s _ (by repeat (first | with_reducible exact hS2 | with_reducible refine Src.alloc ?_ _ | with_reducible refine Src.set ?_ (by omega) (by omega) | with_reducible refine Src.drewN ?_ _ | with_reducible refine Src.drew ?_))).mono ?_
  rintro en w3 ⟨y1, y2, rfl, hS3, hg3⟩
  have hT3 : Below w.heap.size w w3 := Below.trans (by repeat (first | with_reducible exact hT2 | with_reducible exact Below.refl _ _ | with_reducible refine Below.alloc ?_ (by (try simp only [World.size_alloc, World.size_drew, size_drewN, World.size_setCell]); omega) _ | with_reducible refine Below.setCell ?_ (by (try dsimp only); omega) _ | with_reducible refine below_drewN ?_ _ | with_reducible refine Below.drew ?_)) (hg3.to_below (by omega) (by (try simp only [World.size_alloc, World.size_drew, size_drewN, World.size_setCell]); omega))
  have hZ3 := hT3.size
  have ls3 := hS3.lt
  go_wp2_with (go_ret3; exact ⟨_, _, _, rfl, (by repeat (first | with_reducible exact hT3 | with_reducible exact Below.refl _ _ | with_reducible refine Below.alloc ?_ (by (try simp only [World.size_alloc, World.size_drew, size_drewN, World.size_setCell]); omega) _ | with_reducible refine Below.setCell ?_ (by (try dsimp only); omega) _ | with_reducible refine below_drewN ?_ _ | with_reducible refine Below.drew ?_))⟩)
def TrialsDraw (w : World) (en : Ending) (w9 : World) : Prop := ∃ x y z : Int, en = .returned (.tuple #[.int .i64 x, .int .i64 y, .int .i64 z]) ∧ Below w.heap.size w w9
set_option maxHeartbeats 8000000 in
theorem dTrials_any (A : Option Addr) (n c : Nat) (w : World) (hr : RdB w A n) (hm : n ≤ 4096) : Calls Try.prog 36 #[.slice A n c] w (TrialsDraw w) := by
  go_enter Try.func36, Try.ntmps36
  go_wp2_with fail
  refine (from_any A n c _ (RdB.below hr (by repeat (first | with_reducible exact Below.refl _ _ | with_reducible exact Below.refl _ _ | with_reducible refine Below.alloc ?_ (by (try simp only [World.size_alloc, World.size_drew, size_drewN, World.size_setCell]); omega) _ | with_reducible refine Below.setCell ?_ (by (try dsimp only); omega) _ | with_reducible refine below_drewN ?_ _ | with_reducible refine Below.drew ?_))) hm).mono ?_
  rintro en w1 ⟨s, rfl, hs1, hS1, hb1⟩
  (try simp only [World.size_alloc, World.size_drew, size_drewN, World.size_setCell] at hs1)
  have hT1 : Below w.heap.size w w1 := Below.trans (by repeat (first | with_reducible exact Below.refl _ _ | with_reducible exact Below.refl _ _ | with_reducible refine Below.alloc ?_ (by (try simp only [World.size_alloc, World.size_drew, size_drewN, World.size_setCell]); omega) _ | with_reducible refine Below.setCell ?_ (by (try dsimp only); omega) _ | with_reducible refine below_drewN ?_ _ | with_reducible refine Below.drew ?_)) (hb1.mono (by (try simp only [World.size_alloc, World.size_drew, size_drewN, World.size_setCell]); omega))
  have hZ1 := hT1.size
  have ls1 := hS1.lt
  go_wp2_with fail
  refine (d13_any s _ (by repeat (first | with_reducible exact hS1 | with_reducible refine Src.alloc ?_ _ | with_reducible refine Src.set ?_ (by omega) (by omega) | with_reducible refine Src.drewN ?_ _ | with_reducible refine Src.drew ?_))).mono ?_
  rintro en w2 ⟨x1, x2, rfl, hS2, hg2⟩
  have hT2 : Below w.heap.size w w2 := Below.trans (by repeat (first | with_reducible exact hT1 | with_reducible exact Below.refl _ _ | with_reducible refine Below.alloc ?_ (by (try simp only [World.size_alloc, World.size_drew, size_drewN, World.size_setCell]); omega) _ | with_reducible refine Below.setCell ?_ (by (try dsimp only); omega) _ | with_reducible refine below_drewN ?_ _ | with_reducible refine Below.drew ?_)) (hg2.to_below (by omega) (by (try simp only [World.size_alloc, World.size_drew, size_drewN, World.size_setCell]); omega))
  have hZ2 := hT2.size
  have ls2 := hS2.lt
  go_wp2_with fail
  refine (dPart_any s _ (by repeat (first | with_reducible exact hS2 | with_reducible refine Src.alloc ?_ _ | with_reducible refine Src.set ?_ (by omega) (by omega) | with_reducible refine Src.drewN ?_ _ | with_reducible refine Src.drew ?_))).mono ?_
  rintro en w3 ⟨y1, y2, rfl, hS3, hg3⟩
  have hT3 : Below w.heap.size w w3 := Below.trans (by repeat (first | with_reducible exact hT2 | with_reducible exact Below.refl _ _ | with_reducible refine Below.alloc ?_ (by (try simp only [World.size_alloc, World.size_drew, size_drewN, World.size_setCell]); omega) _ | with_reducible refine Below.setCell ?_ (by (try dsimp only); omega) _ | with_reducible refine below_drewN ?_ _ | with_reducible refine Below.drew ?_)) (hg3.to_below (by omega) (by (try simp only [World.size_alloc, World.size_drew, size_drewN, World.size_setCell]); omega))
  have hZ3 := hT3.size
  have ls3 := hS3.lt
  go_wp2_with (go_ret3; exact ⟨_, _, _, rfl, (by repeat (first | with_reducible exact hT3 | with_reducible exact Below.refl _ _ | with_reducible refine Below.alloc ?_ (by (try simp only [World.size_alloc, World.size_drew, size_drewN, World.size_setCell]); omega) _ | with_reducible refine Below.setCell ?_ (by (try dsimp only); omega) _ | with_reducible refine below_drewN ?_ _ | with_reducible refine Below.drew ?_))⟩)
end Go.Proofs.Ytoaldcibmcmfdaa
