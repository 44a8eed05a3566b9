/- walks: what is drawn -/
import Derived.Test.YtoaldcibmcmfdaaSrcW
set_option linter.unusedVariables false
set_option linter.unusedSimpArgs false
namespace Go.Proofs.Ytoaldcibmcmfdaa
open Go.RowKit
theorem Rd.new2 {w : World} (b : Nat) (t : TypeId) (xs : List Int) (hb : b = w.heap.size) : Rd (w.alloc (.cells (xs.map (Value.int .i64)).toArray t)) (some ⟨b, 0, none⟩) xs := by
  subst hb; exact Rd.new _ _ _
def TwoN (s : Nat) (w : World) (en : Ending) (w9 : World) : Prop := ∃ x y : Int, en = .returned (.tuple #[.int .i64 x, .int .i64 y]) ∧ Src w9 s ∧ Gs s w w9
set_option maxHeartbeats 8000000 in
theorem d13_any (s : Nat) (w : World) (h : Src w s) : Calls Try.prog 62 #[.pointer (some ⟨s, 0, none⟩)] w (TwoN s w) := by
  go_enter Try.func62, Try.ntmps62
  have ls0 : s < w.heap.size := h.lt
  go_wp2_with fail
  refine (next_any s _ _ (by repeat (first | with_reducible exact h | with_reducible refine Src.alloc ?_ _ | with_reducible refine Src.set ?_ (by omega) (by omega) | with_reducible refine Src.drewN ?_ _ | with_reducible refine Src.drew ?_))).mono ?_
  rintro en w1 ⟨x1, rfl, a1, b1, hS1, hg1⟩
  have hT1 : Gs s w w1 := Gs.trans (by repeat (first | with_reducible exact Gs.refl _ _ | with_reducible exact Gs.refl _ _ | with_reducible refine Gs.alloc ?_ _ | with_reducible refine Gs.set_new ?_ (by omega) | with_reducible refine Gs.drewN ?_ _ | with_reducible refine Gs.drew ?_)) hg1
  have hZ1 := hT1.size
  have ls1 := hS1.lt
  clear a1 b1
  by_cases e0 : x1 = 0
  · have e1 : (x1 == 0) = true := by simpa using e0
    clear e0
    go_wp2_with fail
    refine (pick_any s _ 4 4 [(-1), 0, 12, 13] _ (by repeat (first | with_reducible exact hS1 | with_reducible refine Src.alloc ?_ _ | with_reducible refine Src.set ?_ (by omega) (by omega) | with_reducible refine Src.drewN ?_ _ | with_reducible refine Src.drew ?_)) rfl (by decide) (by decide) (Rd.new2 _ _ [(-1), 0, 12, 13] (by first | (simp only [World.size_alloc]; done) | (go_size; done))) (fun b off e => by cases e; omega)).mono ?_
    rintro en w2 ⟨y1, rfl, hy, hS2, hg2⟩
    have hT2 : Gs s w w2 := Gs.trans (by repeat (first | with_reducible exact hT1 | with_reducible exact Gs.refl _ _ | with_reducible refine Gs.alloc ?_ _ | with_reducible refine Gs.set_new ?_ (by omega) | with_reducible refine Gs.drewN ?_ _ | with_reducible refine Gs.drew ?_)) hg2
    have hZ2 := hT2.size
    have ls2 := hS2.lt
    clear hy
    go_wp2_with fail
    refine (pick_any s _ 4 4 [(-1), 0, 16, 17] _ (by repeat (first | with_reducible exact hS2 | with_reducible refine Src.alloc ?_ _ | with_reducible refine Src.set ?_ (by omega) (by omega) | with_reducible refine Src.drewN ?_ _ | with_reducible refine Src.drew ?_)) rfl (by decide) (by decide) (Rd.new2 _ _ [(-1), 0, 16, 17] (by first | (simp only [World.size_alloc]; done) | (go_size; done))) (fun b off e => by cases e; omega)).mono ?_
    rintro en w3 ⟨y2, rfl, hy, hS3, hg3⟩
    have hT3 : Gs s w w3 := Gs.trans (by repeat (first | with_reducible exact hT2 | with_reducible exact Gs.refl _ _ | with_reducible refine Gs.alloc ?_ _ | with_reducible refine Gs.set_new ?_ (by omega) | with_reducible refine Gs.drewN ?_ _ | with_reducible refine Gs.drew ?_)) hg3
    have hZ3 := hT3.size
    have ls3 := hS3.lt
    clear hy
    go_wp2_with (go_ret2; exact ⟨_, _, rfl, (by repeat (first | with_reducible exact hS3 | with_reducible refine Src.alloc ?_ _ | with_reducible refine Src.set ?_ (by omega) (by omega) | with_reducible refine Src.drewN ?_ _ | with_reducible refine Src.drew ?_)), (by repeat (first | with_reducible exact hT3 | with_reducible exact Gs.refl _ _ | with_reducible refine Gs.alloc ?_ _ | with_reducible refine Gs.set_new ?_ (by omega) | with_reducible refine Gs.drewN ?_ _ | with_reducible refine Gs.drew ?_))⟩)
  · have e1 : (x1 == 0) = false := by simpa using e0
    clear e0
    go_wp2_with fail
    refine (next_any s _ _ (by repeat (first | with_reducible exact hS1 | with_reducible refine Src.alloc ?_ _ | with_reducible refine Src.set ?_ (by omega) (by omega) | with_reducible refine Src.drewN ?_ _ | with_reducible refine Src.drew ?_))).mono ?_
    rintro en w2 ⟨y1, rfl, a1, b1, hS2, hg2⟩
    have hT2 : Gs s w w2 := Gs.trans (by repeat (first | with_reducible exact hT1 | with_reducible exact Gs.refl _ _ | with_reducible refine Gs.alloc ?_ _ | with_reducible refine Gs.set_new ?_ (by omega) | with_reducible refine Gs.drewN ?_ _ | with_reducible refine Gs.drew ?_)) hg2
    have hZ2 := hT2.size
    have ls2 := hS2.lt
    clear a1 b1
    go_wp2_with fail
    refine (next_any s _ _ (by repeat (first | with_reducible exact hS2 | with_reducible refine Src.alloc ?_ _ | with_reducible refine Src.set ?_ (by omega) (by omega) | with_reducible refine Src.drewN ?_ _ | with_reducible refine Src.drew ?_))).mono ?_
    rintro en w3 ⟨y2, rfl, a1, b1, hS3, hg3⟩
    have hT3 : Gs s w w3 := Gs.trans (by repeat (first | with_reducible exact hT2 | with_reducible exact Gs.refl _ _ | with_reducible refine Gs.alloc ?_ _ | with_reducible refine Gs.set_new ?_ (by omega) | with_reducible refine Gs.drewN ?_ _ | with_reducible refine Gs.drew ?_)) hg3
    have hZ3 := hT3.size
    have ls3 := hS3.lt
    clear a1 b1
    go_wp2_with (go_ret2; exact ⟨_, _, rfl, (by repeat (first | with_reducible exact hS3 | with_reducible refine Src.alloc ?_ _ | with_reducible refine Src.set ?_ (by omega) (by omega) | with_reducible refine Src.drewN ?_ _ | with_reducible refine Src.drew ?_)), (by repeat (first | with_reducible exact hT3 | with_reducible exact Gs.refl _ _ | with_reducible refine Gs.alloc ?_ _ | with_reducible refine Gs.set_new ?_ (by omega) | with_reducible refine Gs.drewN ?_ _ | with_reducible refine Gs.drew ?_))⟩)
end Go.Proofs.Ytoaldcibmcmfdaa
