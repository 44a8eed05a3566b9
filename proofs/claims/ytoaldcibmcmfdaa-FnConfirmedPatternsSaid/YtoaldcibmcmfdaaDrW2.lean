/- walks: what the laws draw -/
import Derived.Test.YtoaldcibmcmfdaaDrW
set_option linter.unusedVariables false
set_option linter.unusedSimpArgs false
namespace Go.Proofs.Ytoaldcibmcmfdaa
open Go.RowKit
def TailDraw (w : World) (en : Ending) (w9 : World) : Prop := ∃ x y z : Int, en = .returned (.tuple #[.int .i64 x, .int .i64 y, .int .i64 z]) ∧ Below w.heap.size w w9
set_option maxHeartbeats 8000000 in
theorem dTail_any (A : Option Addr) (n c : Nat) (w : World) (hr : RdB w A n) (hm : n ≤ 4096) : Calls Try.prog 33 #[.slice A n c] w (TailDraw w) := by
  go_enter Try.func33, Try.ntmps33
  go_wp2_with fail
  refine (from_any A n c _ (RdB.below hr (by repeat (first | with_reducible exact Below.refl _ _ | with_reducible exact Below.refl _ _ | with_reducible refine Below.alloc ?_ (by (try simp only [World.size_alloc, World.size_drew, size_drewN, World.size_setCell]); omega) _ | with_reducible refine Below.setCell ?_ (by (try dsimp only); omega) _ | with_reducible refine below_drewN ?_ _ | with_reducible refine Below.drew ?_))) hm).mono ?_
  rintro en w1 ⟨s, rfl, hs1, hS1, hb1⟩
  (try simp only [World.size_alloc, World.size_drew, size_drewN, World.size_setCell] at hs1)
  have hT1 : Below w.heap.size w w1 := Below.trans (by repeat (first | with_reducible exact Below.refl _ _ | with_reducible exact Below.refl _ _ | with_reducible refine Below.alloc ?_ (by (try simp only [World.size_alloc, World.size_drew, size_drewN, World.size_setCell]); omega) _ | with_reducible refine Below.setCell ?_ (by (try dsimp only); omega) _ | with_reducible refine below_drewN ?_ _ | with_reducible refine Below.drew ?_)) (hb1.mono (by (try simp only [World.size_alloc, World.size_drew, size_drewN, World.size_setCell]); omega))
  have hZ1 := hT1.size
  have ls1 := hS1.lt
  go_wp2_with fail
  refine (d13_any s _ (by repeat (first | with_reducible exact hS1 | with_reducible refine Src.alloc ?_ _ | with_reducible refine Src.set ?_ (by omega) (by omega) | with_reducible refine Src.drewN ?_ _ | with_reducible refine Src.drew ?_))).mono ?_
  rintro en w2 ⟨x1, x2, rfl, hS2, hg2⟩
  have hT2 : Below w.heap.size w w2 := Below.trans (by repeat (first | with_reducible exact hT1 | with_reducible exact Below.refl _ _ | with_reducible refine Below.alloc ?_ (by (try simp only [World.size_alloc, World.size_drew, size_drewN, World.size_setCell]); omega) _ | with_reducible refine Below.setCell ?_ (by (try dsimp only); omega) _ | with_reducible refine below_drewN ?_ _ | with_reducible refine Below.drew ?_)) (hg2.to_below (by omega) (by (try simp only [World.size_alloc, World.size_drew, size_drewN, World.size_setCell]); omega))
  have hZ2 := hT2.size
  have ls2 := hS2.lt
  go_wp2_with fail
  refine (next_any s _ _ (by repeat (first | with_reducible exact hS2 | with_reducible refine Src.alloc ?_ _ | with_reducible refine Src.set ?_ (by omega) (by omega) | with_reducible refine Src.drewN ?_ _ | with_reducible refine Src.drew ?_))).mono ?_
  rintro en w3 ⟨y1, rfl, a1, b1, hS3, hg3⟩
  have hT3 : Below w.heap.size w w3 := Below.trans (by repeat (first | with_reducible exact hT2 | with_reducible exact Below.refl _ _ | with_reducible refine Below.alloc ?_ (by (try simp only [World.size_alloc, World.size_drew, size_drewN, World.size_setCell]); omega) _ | with_reducible refine Below.setCell ?_ (by (try dsimp only); omega) _ | with_reducible refine below_drewN ?_ _ | with_reducible refine Below.drew ?_)) (hg3.to_below (by omega) (by (try simp only [World.size_alloc, World.size_drew, size_drewN, World.size_setCell]); omega))
  have hZ3 := hT3.size
  have ls3 := hS3.lt
  clear a1 b1
  go_wp2_with fail
  refine (next_any s _ _ (by repeat (first | with_reducible exact hS3 | with_reducible refine Src.alloc ?_ _ | with_reducible refine Src.set ?_ (by omega) (by omega) | with_reducible refine Src.drewN ?_ _ | with_reducible refine Src.drew ?_))).mono ?_
  rintro en w4 ⟨y2, rfl, a1, b1, hS4, hg4⟩
  have hT4 : Below w.heap.size w w4 := Below.trans (by repeat (first | with_reducible exact hT3 | with_reducible exact Below.refl _ _ | with_reducible refine Below.alloc ?_ (by (try simp only [World.size_alloc, World.size_drew, size_drewN, World.size_setCell]); omega) _ | with_reducible refine Below.setCell ?_ (by (try dsimp only); omega) _ | with_reducible refine below_drewN ?_ _ | with_reducible refine Below.drew ?_)) (hg4.to_below (by omega) (by (try simp only [World.size_alloc, World.size_drew, size_drewN, World.size_setCell]); omega))
  have hZ4 := hT4.size
  have ls4 := hS4.lt
  clear a1 b1
  go_wp2_with (go_ret3; exact ⟨_, _, _, rfl, (by repeat (first | with_reducible exact hT4 | with_reducible exact Below.refl _ _ | with_reducible refine Below.alloc ?_ (by (try simp only [World.size_alloc, World.size_drew, size_drewN, World.size_setCell]); omega) _ | with_reducible refine Below.setCell ?_ (by (try dsimp only); omega) _ | with_reducible refine below_drewN ?_ _ | with_reducible refine Below.drew ?_))⟩)
end Go.Proofs.Ytoaldcibmcmfdaa
