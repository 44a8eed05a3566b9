/- walks: what the laws draw (drift) -/
import Derived.Test.YtoccglmlpobeeaaDrW5
import Derived.Deep.DeepCutAuto
set_option linter.unusedVariables false
set_option linter.unusedSimpArgs false
namespace Go.Proofs.Ytoccglmlpobeeaa
open Go.RowKit
def DriftPost (w : World) (en : Ending) (w9 : World) : Prop := ∃ p1 q1 r1 t1 p2 q2 r2 t2 x : Int, en = .returned (.tuple #[.agg #[.int .i64 p1, .int .i64 q1, .int .i64 r1, .int .i64 t1], .agg #[.int .i64 p2, .int .i64 q2, .int .i64 r2, .int .i64 t2], .int .i64 x]) ∧ Below w.heap.size w w9
set_option maxHeartbeats 8000000 in
theorem dDrift_any (A : Option Addr) (n c : Nat) (w : World) (hr : RdB w A n) (hm : n ≤ 4096) : Calls Try.prog 66 #[.slice A n c] w (DriftPost w) := by
  go_enter Try.func66, Try.ntmps66
  go_wp2_with fail
  refine (from_any A n c _ (RdB.below hr (by repeat (first | with_reducible exact Below.refl _ _ | with_reducible exact Below.refl _ _ | with_reducible refine Below.alloc ?_ (by (try simp only [World.size_alloc, World.size_drew, size_drewN, World.size_setCell]); omega) _ | with_reducible refine Below.setCell ?_ (by (try dsimp only); omega) _ | with_reducible refine below_drewN ?_ _ | with_reducible refine Below.drew ?_))) hm).mono ?_
  rintro en w1 ⟨s, rfl, hs1, hS1, hb1⟩
  (try simp only [World.size_alloc, World.size_drew, size_drewN, World.size_setCell] at hs1)
  have hT1 : Below w.heap.size w w1 := Below.trans (by repeat (first | with_reducible exact Below.refl _ _ | with_reducible exact Below.refl _ _ | with_reducible refine Below.alloc ?_ (by (try simp only [World.size_alloc, World.size_drew, size_drewN, World.size_setCell]); omega) _ | with_reducible refine Below.setCell ?_ (by (try dsimp only); omega) _ | with_reducible refine below_drewN ?_ _ | with_reducible refine Below.drew ?_)) (hb1.mono (by (try simp only [World.size_alloc, World.size_drew, size_drewN, World.size_setCell]); omega))
  have f1 : w1.cell? ⟨w.heap.size, 0, none⟩ = some (.int .i64 0) := later hb1 (by first | go_simp | go_keep)
  have z1 : w1.frozen? ⟨w.heap.size, 0, none⟩ = false := laterF (v := .int .i64 0) hb1 (by first | go_simp | go_keep) (by first | go_simp | go_keep)
  have f2 : w1.cell? ⟨w.heap.size, 1, none⟩ = some (.int .i64 0) := later hb1 (by first | go_simp | go_keep)
  have z2 : w1.frozen? ⟨w.heap.size, 1, none⟩ = false := laterF (v := .int .i64 0) hb1 (by first | go_simp | go_keep) (by first | go_simp | go_keep)
  have f3 : w1.cell? ⟨w.heap.size, 2, none⟩ = some (.int .i64 0) := later hb1 (by first | go_simp | go_keep)
  have z3 : w1.frozen? ⟨w.heap.size, 2, none⟩ = false := laterF (v := .int .i64 0) hb1 (by first | go_simp | go_keep) (by first | go_simp | go_keep)
  have f4 : w1.cell? ⟨w.heap.size, 3, none⟩ = some (.int .i64 0) := later hb1 (by first | go_simp | go_keep)
  have z4 : w1.frozen? ⟨w.heap.size, 3, none⟩ = false := laterF (v := .int .i64 0) hb1 (by first | go_simp | go_keep) (by first | go_simp | go_keep)
  have f5 : w1.cell? ⟨w.heap.size + 1, 0, none⟩ = some (.int .i64 0) := later hb1 (by first | go_simp | go_keep)
  have z5 : w1.frozen? ⟨w.heap.size + 1, 0, none⟩ = false := laterF (v := .int .i64 0) hb1 (by first | go_simp | go_keep) (by first | go_simp | go_keep)
  have f6 : w1.cell? ⟨w.heap.size + 1, 1, none⟩ = some (.int .i64 0) := later hb1 (by first | go_simp | go_keep)
  have z6 : w1.frozen? ⟨w.heap.size + 1, 1, none⟩ = false := laterF (v := .int .i64 0) hb1 (by first | go_simp | go_keep) (by first | go_simp | go_keep)
  have f7 : w1.cell? ⟨w.heap.size + 1, 2, none⟩ = some (.int .i64 0) := later hb1 (by first | go_simp | go_keep)
  have z7 : w1.frozen? ⟨w.heap.size + 1, 2, none⟩ = false := laterF (v := .int .i64 0) hb1 (by first | go_simp | go_keep) (by first | go_simp | go_keep)
  have f8 : w1.cell? ⟨w.heap.size + 1, 3, none⟩ = some (.int .i64 0) := later hb1 (by first | go_simp | go_keep)
  have z8 : w1.frozen? ⟨w.heap.size + 1, 3, none⟩ = false := laterF (v := .int .i64 0) hb1 (by first | go_simp | go_keep) (by first | go_simp | go_keep)
  have l9 : w.heap.size < w1.heap.size := World.block_lt_of_cell? _ _ f1
  have l10 : w.heap.size + 1 < w1.heap.size := World.block_lt_of_cell? _ _ f5
  have hZ1 := hT1.size
  have ls1 := hS1.lt
  go_wp2_with fail
  refine (dTwo_any s _ (by repeat (first | with_reducible exact hS1 | with_reducible refine Src.alloc ?_ _ | with_reducible refine Src.set ?_ (by omega) (by omega) | with_reducible refine Src.drewN ?_ _ | with_reducible refine Src.drew ?_))).mono ?_
  rintro en w2 ⟨p1, q1, r1, t1, p2, q2, r2, t2, rfl, hS2, hg2⟩
  have hT2 : Below w.heap.size w w2 := Below.trans (by repeat (first | with_reducible exact hT1 | with_reducible exact Below.refl _ _ | with_reducible refine Below.alloc ?_ (by (try simp only [World.size_alloc, World.size_drew, size_drewN, World.size_setCell]); omega) _ | with_reducible refine Below.setCell ?_ (by (try dsimp only); omega) _ | with_reducible refine below_drewN ?_ _ | with_reducible refine Below.drew ?_)) (hg2.to_below (by omega) (by (try simp only [World.size_alloc, World.size_drew, size_drewN, World.size_setCell]); omega))
  have f11 : w2.cell? ⟨w.heap.size, 0, none⟩ = some (.int .i64 0) := hg2.cell2 (by first | go_simp | go_keep) (by (try dsimp only); omega)
  have z11 : w2.frozen? ⟨w.heap.size, 0, none⟩ = false := hg2.frozen2 (v := .int .i64 0) (by first | go_simp | go_keep) (by (try dsimp only); omega) (by first | go_simp | go_keep)
  clear f1 z1
  have f12 : w2.cell? ⟨w.heap.size, 1, none⟩ = some (.int .i64 0) := hg2.cell2 (by first | go_simp | go_keep) (by (try dsimp only); omega)
  have z12 : w2.frozen? ⟨w.heap.size, 1, none⟩ = false := hg2.frozen2 (v := .int .i64 0) (by first | go_simp | go_keep) (by (try dsimp only); omega) (by first | go_simp | go_keep)
  clear f2 z2
  have f13 : w2.cell? ⟨w.heap.size, 2, none⟩ = some (.int .i64 0) := hg2.cell2 (by first | go_simp | go_keep) (by (try dsimp only); omega)
  have z13 : w2.frozen? ⟨w.heap.size, 2, none⟩ = false := hg2.frozen2 (v := .int .i64 0) (by first | go_simp | go_keep) (by (try dsimp only); omega) (by first | go_simp | go_keep)
  clear f3 z3
  have f14 : w2.cell? ⟨w.heap.size, 3, none⟩ = some (.int .i64 0) := hg2.cell2 (by first | go_simp | go_keep) (by (try dsimp only); omega)
  have z14 : w2.frozen? ⟨w.heap.size, 3, none⟩ = false := hg2.frozen2 (v := .int .i64 0) (by first | go_simp | go_keep) (by (try dsimp only); omega) (by first | go_simp | go_keep)
  clear f4 z4
  have f15 : w2.cell? ⟨w.heap.size + 1, 0, none⟩ = some (.int .i64 0) := hg2.cell2 (by first | go_simp | go_keep) (by (try dsimp only); omega)
  have z15 : w2.frozen? ⟨w.heap.size + 1, 0, none⟩ = false := hg2.frozen2 (v := .int .i64 0) (by first | go_simp | go_keep) (by (try dsimp only); omega) (by first | go_simp | go_keep)
  clear f5 z5
  have f16 : w2.cell? ⟨w.heap.size + 1, 1, none⟩ = some (.int .i64 0) := hg2.cell2 (by first | go_simp | go_keep) (by (try dsimp only); omega)
  have z16 : w2.frozen? ⟨w.heap.size + 1, 1, none⟩ = false := hg2.frozen2 (v := .int .i64 0) (by first | go_simp | go_keep) (by (try dsimp only); omega) (by first | go_simp | go_keep)
  clear f6 z6
  have f17 : w2.cell? ⟨w.heap.size + 1, 2, none⟩ = some (.int .i64 0) := hg2.cell2 (by first | go_simp | go_keep) (by (try dsimp only); omega)
  have z17 : w2.frozen? ⟨w.heap.size + 1, 2, none⟩ = false := hg2.frozen2 (v := .int .i64 0) (by first | go_simp | go_keep) (by (try dsimp only); omega) (by first | go_simp | go_keep)
  clear f7 z7
  have f18 : w2.cell? ⟨w.heap.size + 1, 3, none⟩ = some (.int .i64 0) := hg2.cell2 (by first | go_simp | go_keep) (by (try dsimp only); omega)
  have z18 : w2.frozen? ⟨w.heap.size + 1, 3, none⟩ = false := hg2.frozen2 (v := .int .i64 0) (by first | go_simp | go_keep) (by (try dsimp only); omega) (by first | go_simp | go_keep)
  clear f8 z8
  have l19 : w.heap.size < w2.heap.size := World.block_lt_of_cell? _ _ f11
  have l20 : w.heap.size + 1 < w2.heap.size := World.block_lt_of_cell? _ _ f15
  have hZ2 := hT2.size
  have ls2 := hS2.lt
  go_upto_region 3 with fail
  have hT3 : Below w.heap.size w ((w2.alloc (Obj.cells #[.int .i64 p1, .int .i64 q1, .int .i64 r1, .int .i64 t1] 52)).alloc (Obj.cells #[.int .i64 p2, .int .i64 q2, .int .i64 r2, .int .i64 t2] 52)) := (by repeat (first | with_reducible exact hT2 | with_reducible exact Below.refl _ _ | with_reducible refine Below.alloc ?_ (by (try simp only [World.size_alloc, World.size_drew, size_drewN, World.size_setCell]); omega) _ | with_reducible refine Below.setCell ?_ (by (try dsimp only); omega) _ | with_reducible refine below_drewN ?_ _ | with_reducible refine Below.drew ?_))
  have hS3 : Src ((w2.alloc (Obj.cells #[.int .i64 p1, .int .i64 q1, .int .i64 r1, .int .i64 t1] 52)).alloc (Obj.cells #[.int .i64 p2, .int .i64 q2, .int .i64 r2, .int .i64 t2] 52)) s := (by repeat (first | with_reducible exact hS2 | with_reducible refine Src.alloc ?_ _ | with_reducible refine Src.set ?_ (by omega) (by omega) | with_reducible refine Src.drewN ?_ _ | with_reducible refine Src.drew ?_))
  have f21 : ((w2.alloc (Obj.cells #[.int .i64 p1, .int .i64 q1, .int .i64 r1, .int .i64 t1] 52)).alloc (Obj.cells #[.int .i64 p2, .int .i64 q2, .int .i64 r2, .int .i64 t2] 52)).cell? ⟨w.heap.size, 0, none⟩ = some (.int .i64 0) := by first | go_simp | go_keep
  have z21 : ((w2.alloc (Obj.cells #[.int .i64 p1, .int .i64 q1, .int .i64 r1, .int .i64 t1] 52)).alloc (Obj.cells #[.int .i64 p2, .int .i64 q2, .int .i64 r2, .int .i64 t2] 52)).frozen? ⟨w.heap.size, 0, none⟩ = false := by first | go_simp | go_keep
  clear f11 z11
  have f22 : ((w2.alloc (Obj.cells #[.int .i64 p1, .int .i64 q1, .int .i64 r1, .int .i64 t1] 52)).alloc (Obj.cells #[.int .i64 p2, .int .i64 q2, .int .i64 r2, .int .i64 t2] 52)).cell? ⟨w.heap.size, 1, none⟩ = some (.int .i64 0) := by first | go_simp | go_keep
  have z22 : ((w2.alloc (Obj.cells #[.int .i64 p1, .int .i64 q1, .int .i64 r1, .int .i64 t1] 52)).alloc (Obj.cells #[.int .i64 p2, .int .i64 q2, .int .i64 r2, .int .i64 t2] 52)).frozen? ⟨w.heap.size, 1, none⟩ = false := by first | go_simp | go_keep
  clear f12 z12
  have f23 : ((w2.alloc (Obj.cells #[.int .i64 p1, .int .i64 q1, .int .i64 r1, .int .i64 t1] 52)).alloc (Obj.cells #[.int .i64 p2, .int .i64 q2, .int .i64 r2, .int .i64 t2] 52)).cell? ⟨w.heap.size, 2, none⟩ = some (.int .i64 0) := by first | go_simp | go_keep
  have z23 : ((w2.alloc (Obj.cells #[.int .i64 p1, .int .i64 q1, .int .i64 r1, .int .i64 t1] 52)).alloc (Obj.cells #[.int .i64 p2, .int .i64 q2, .int .i64 r2, .int .i64 t2] 52)).frozen? ⟨w.heap.size, 2, none⟩ = false := by first | go_simp | go_keep
  clear f13 z13
  have f24 : ((w2.alloc (Obj.cells #[.int .i64 p1, .int .i64 q1, .int .i64 r1, .int .i64 t1] 52)).alloc (Obj.cells #[.int .i64 p2, .int .i64 q2, .int .i64 r2, .int .i64 t2] 52)).cell? ⟨w.heap.size, 3, none⟩ = some (.int .i64 0) := by first | go_simp | go_keep
  have z24 : ((w2.alloc (Obj.cells #[.int .i64 p1, .int .i64 q1, .int .i64 r1, .int .i64 t1] 52)).alloc (Obj.cells #[.int .i64 p2, .int .i64 q2, .int .i64 r2, .int .i64 t2] 52)).frozen? ⟨w.heap.size, 3, none⟩ = false := by first | go_simp | go_keep
  clear f14 z14
  have f25 : ((w2.alloc (Obj.cells #[.int .i64 p1, .int .i64 q1, .int .i64 r1, .int .i64 t1] 52)).alloc (Obj.cells #[.int .i64 p2, .int .i64 q2, .int .i64 r2, .int .i64 t2] 52)).cell? ⟨w.heap.size + 1, 0, none⟩ = some (.int .i64 0) := by first | go_simp | go_keep
  have z25 : ((w2.alloc (Obj.cells #[.int .i64 p1, .int .i64 q1, .int .i64 r1, .int .i64 t1] 52)).alloc (Obj.cells #[.int .i64 p2, .int .i64 q2, .int .i64 r2, .int .i64 t2] 52)).frozen? ⟨w.heap.size + 1, 0, none⟩ = false := by first | go_simp | go_keep
  clear f15 z15
  have f26 : ((w2.alloc (Obj.cells #[.int .i64 p1, .int .i64 q1, .int .i64 r1, .int .i64 t1] 52)).alloc (Obj.cells #[.int .i64 p2, .int .i64 q2, .int .i64 r2, .int .i64 t2] 52)).cell? ⟨w.heap.size + 1, 1, none⟩ = some (.int .i64 0) := by first | go_simp | go_keep
  have z26 : ((w2.alloc (Obj.cells #[.int .i64 p1, .int .i64 q1, .int .i64 r1, .int .i64 t1] 52)).alloc (Obj.cells #[.int .i64 p2, .int .i64 q2, .int .i64 r2, .int .i64 t2] 52)).frozen? ⟨w.heap.size + 1, 1, none⟩ = false := by first | go_simp | go_keep
  clear f16 z16
  have f27 : ((w2.alloc (Obj.cells #[.int .i64 p1, .int .i64 q1, .int .i64 r1, .int .i64 t1] 52)).alloc (Obj.cells #[.int .i64 p2, .int .i64 q2, .int .i64 r2, .int .i64 t2] 52)).cell? ⟨w.heap.size + 1, 2, none⟩ = some (.int .i64 0) := by first | go_simp | go_keep
  have z27 : ((w2.alloc (Obj.cells #[.int .i64 p1, .int .i64 q1, .int .i64 r1, .int .i64 t1] 52)).alloc (Obj.cells #[.int .i64 p2, .int .i64 q2, .int .i64 r2, .int .i64 t2] 52)).frozen? ⟨w.heap.size + 1, 2, none⟩ = false := by first | go_simp | go_keep
  clear f17 z17
  have f28 : ((w2.alloc (Obj.cells #[.int .i64 p1, .int .i64 q1, .int .i64 r1, .int .i64 t1] 52)).alloc (Obj.cells #[.int .i64 p2, .int .i64 q2, .int .i64 r2, .int .i64 t2] 52)).cell? ⟨w.heap.size + 1, 3, none⟩ = some (.int .i64 0) := by first | go_simp | go_keep
  have z28 : ((w2.alloc (Obj.cells #[.int .i64 p1, .int .i64 q1, .int .i64 r1, .int .i64 t1] 52)).alloc (Obj.cells #[.int .i64 p2, .int .i64 q2, .int .i64 r2, .int .i64 t2] 52)).frozen? ⟨w.heap.size + 1, 3, none⟩ = false := by first | go_simp | go_keep
  clear f18 z18
  have f29 : ((w2.alloc (Obj.cells #[.int .i64 p1, .int .i64 q1, .int .i64 r1, .int .i64 t1] 52)).alloc (Obj.cells #[.int .i64 p2, .int .i64 q2, .int .i64 r2, .int .i64 t2] 52)).cell? ⟨w2.heap.size, 0, none⟩ = some (.int .i64 p1) := by first | go_simp | go_keep
  have z29 : ((w2.alloc (Obj.cells #[.int .i64 p1, .int .i64 q1, .int .i64 r1, .int .i64 t1] 52)).alloc (Obj.cells #[.int .i64 p2, .int .i64 q2, .int .i64 r2, .int .i64 t2] 52)).frozen? ⟨w2.heap.size, 0, none⟩ = false := by first | go_simp | go_keep
  have f30 : ((w2.alloc (Obj.cells #[.int .i64 p1, .int .i64 q1, .int .i64 r1, .int .i64 t1] 52)).alloc (Obj.cells #[.int .i64 p2, .int .i64 q2, .int .i64 r2, .int .i64 t2] 52)).cell? ⟨w2.heap.size, 1, none⟩ = some (.int .i64 q1) := by first | go_simp | go_keep
  have z30 : ((w2.alloc (Obj.cells #[.int .i64 p1, .int .i64 q1, .int .i64 r1, .int .i64 t1] 52)).alloc (Obj.cells #[.int .i64 p2, .int .i64 q2, .int .i64 r2, .int .i64 t2] 52)).frozen? ⟨w2.heap.size, 1, none⟩ = false := by first | go_simp | go_keep
  have f31 : ((w2.alloc (Obj.cells #[.int .i64 p1, .int .i64 q1, .int .i64 r1, .int .i64 t1] 52)).alloc (Obj.cells #[.int .i64 p2, .int .i64 q2, .int .i64 r2, .int .i64 t2] 52)).cell? ⟨w2.heap.size, 2, none⟩ = some (.int .i64 r1) := by first | go_simp | go_keep
  have z31 : ((w2.alloc (Obj.cells #[.int .i64 p1, .int .i64 q1, .int .i64 r1, .int .i64 t1] 52)).alloc (Obj.cells #[.int .i64 p2, .int .i64 q2, .int .i64 r2, .int .i64 t2] 52)).frozen? ⟨w2.heap.size, 2, none⟩ = false := by first | go_simp | go_keep
  have f32 : ((w2.alloc (Obj.cells #[.int .i64 p1, .int .i64 q1, .int .i64 r1, .int .i64 t1] 52)).alloc (Obj.cells #[.int .i64 p2, .int .i64 q2, .int .i64 r2, .int .i64 t2] 52)).cell? ⟨w2.heap.size, 3, none⟩ = some (.int .i64 t1) := by first | go_simp | go_keep
  have z32 : ((w2.alloc (Obj.cells #[.int .i64 p1, .int .i64 q1, .int .i64 r1, .int .i64 t1] 52)).alloc (Obj.cells #[.int .i64 p2, .int .i64 q2, .int .i64 r2, .int .i64 t2] 52)).frozen? ⟨w2.heap.size, 3, none⟩ = false := by first | go_simp | go_keep
  have f33 : ((w2.alloc (Obj.cells #[.int .i64 p1, .int .i64 q1, .int .i64 r1, .int .i64 t1] 52)).alloc (Obj.cells #[.int .i64 p2, .int .i64 q2, .int .i64 r2, .int .i64 t2] 52)).cell? ⟨w2.heap.size + 1, 0, none⟩ = some (.int .i64 p2) := by first | go_simp | go_keep
  have z33 : ((w2.alloc (Obj.cells #[.int .i64 p1, .int .i64 q1, .int .i64 r1, .int .i64 t1] 52)).alloc (Obj.cells #[.int .i64 p2, .int .i64 q2, .int .i64 r2, .int .i64 t2] 52)).frozen? ⟨w2.heap.size + 1, 0, none⟩ = false := by first | go_simp | go_keep
  have f34 : ((w2.alloc (Obj.cells #[.int .i64 p1, .int .i64 q1, .int .i64 r1, .int .i64 t1] 52)).alloc (Obj.cells #[.int .i64 p2, .int .i64 q2, .int .i64 r2, .int .i64 t2] 52)).cell? ⟨w2.heap.size + 1, 1, none⟩ = some (.int .i64 q2) := by first | go_simp | go_keep
  have z34 : ((w2.alloc (Obj.cells #[.int .i64 p1, .int .i64 q1, .int .i64 r1, .int .i64 t1] 52)).alloc (Obj.cells #[.int .i64 p2, .int .i64 q2, .int .i64 r2, .int .i64 t2] 52)).frozen? ⟨w2.heap.size + 1, 1, none⟩ = false := by first | go_simp | go_keep
  have f35 : ((w2.alloc (Obj.cells #[.int .i64 p1, .int .i64 q1, .int .i64 r1, .int .i64 t1] 52)).alloc (Obj.cells #[.int .i64 p2, .int .i64 q2, .int .i64 r2, .int .i64 t2] 52)).cell? ⟨w2.heap.size + 1, 2, none⟩ = some (.int .i64 r2) := by first | go_simp | go_keep
  have z35 : ((w2.alloc (Obj.cells #[.int .i64 p1, .int .i64 q1, .int .i64 r1, .int .i64 t1] 52)).alloc (Obj.cells #[.int .i64 p2, .int .i64 q2, .int .i64 r2, .int .i64 t2] 52)).frozen? ⟨w2.heap.size + 1, 2, none⟩ = false := by first | go_simp | go_keep
  have f36 : ((w2.alloc (Obj.cells #[.int .i64 p1, .int .i64 q1, .int .i64 r1, .int .i64 t1] 52)).alloc (Obj.cells #[.int .i64 p2, .int .i64 q2, .int .i64 r2, .int .i64 t2] 52)).cell? ⟨w2.heap.size + 1, 3, none⟩ = some (.int .i64 t2) := by first | go_simp | go_keep
  have z36 : ((w2.alloc (Obj.cells #[.int .i64 p1, .int .i64 q1, .int .i64 r1, .int .i64 t1] 52)).alloc (Obj.cells #[.int .i64 p2, .int .i64 q2, .int .i64 r2, .int .i64 t2] 52)).frozen? ⟨w2.heap.size + 1, 3, none⟩ = false := by first | go_simp | go_keep
  generalize ((w2.alloc (Obj.cells #[.int .i64 p1, .int .i64 q1, .int .i64 r1, .int .i64 t1] 52)).alloc (Obj.cells #[.int .i64 p2, .int .i64 q2, .int .i64 r2, .int .i64 t2] 52)) = w3 at hT3 hS3 f21 z21 f22 z22 f23 z23 f24 z24 f25 z25 f26 z26 f27 z27 f28 z28 f29 z29 f30 z30 f31 z31 f32 z32 f33 z33 f34 z34 f35 z35 f36 z36 ⊢
  have l37 : w.heap.size < w3.heap.size := World.block_lt_of_cell? _ _ f21
  have l38 : w.heap.size + 1 < w3.heap.size := World.block_lt_of_cell? _ _ f25
  have l39 : w2.heap.size < w3.heap.size := World.block_lt_of_cell? _ _ f29
  have l40 : w2.heap.size + 1 < w3.heap.size := World.block_lt_of_cell? _ _ f33
  have hZ3 := hT3.size
  have ls3 := hS3.lt
  have n41 : ¬ w.heap.size = w2.heap.size := (by omega)
  have n42 : ¬ w.heap.size = w2.heap.size + 1 := (by omega)
  have n43 : ¬ w.heap.size + 1 = w2.heap.size := (by omega)
  have n44 : ¬ w.heap.size + 1 = w2.heap.size + 1 := (by omega)
  have n45 : ¬ w.heap.size = w2.heap.size := (by omega)
  have n46 : ¬ w2.heap.size = w.heap.size := (by omega)
  have n47 : ¬ w2.heap.size = w.heap.size + 1 := (by omega)
  have n48 : ¬ w2.heap.size + 1 = w.heap.size := (by omega)
  have n49 : ¬ w2.heap.size + 1 = w.heap.size + 1 := (by omega)
  have n50 : ¬ w2.heap.size = w.heap.size := (by omega)
  go_region_held3 (fun w9 => w9.cell? ⟨w2.heap.size, 0, none⟩ = some (.int .i64 p1) ∧ w9.cell? ⟨w2.heap.size, 1, none⟩ = some (.int .i64 q1) ∧ w9.cell? ⟨w2.heap.size, 2, none⟩ = some (.int .i64 r1) ∧ w9.cell? ⟨w2.heap.size, 3, none⟩ = some (.int .i64 t1) ∧ w9.cell? ⟨w2.heap.size + 1, 0, none⟩ = some (.int .i64 p2) ∧ w9.cell? ⟨w2.heap.size + 1, 1, none⟩ = some (.int .i64 q2) ∧ w9.cell? ⟨w2.heap.size + 1, 2, none⟩ = some (.int .i64 r2) ∧ w9.cell? ⟨w2.heap.size + 1, 3, none⟩ = some (.int .i64 t2)) (first | with_reducible assumption | go_keep) (first | (go_at_call 110; refine (dTime_any s _ (Src.drew hS3)).mono ?_; rintro en wx ⟨x, rfl, hSx, hgx⟩; have fr0 : wx.cell? ⟨w.heap.size, 0, none⟩ = some (.int .i64 0) := hgx.cell2 (by first | exact f21 | go_simp) (by (try dsimp only); omega); have frz0 : wx.frozen? ⟨w.heap.size, 0, none⟩ = false := hgx.frozen2 (v := .int .i64 0) (by first | exact f21 | go_simp) (by (try dsimp only); omega) (by first | exact z21 | go_simp); have fr1 : wx.cell? ⟨w.heap.size, 1, none⟩ = some (.int .i64 0) := hgx.cell2 (by first | exact f22 | go_simp) (by (try dsimp only); omega); have frz1 : wx.frozen? ⟨w.heap.size, 1, none⟩ = false := hgx.frozen2 (v := .int .i64 0) (by first | exact f22 | go_simp) (by (try dsimp only); omega) (by first | exact z22 | go_simp); have fr2 : wx.cell? ⟨w.heap.size, 2, none⟩ = some (.int .i64 0) := hgx.cell2 (by first | exact f23 | go_simp) (by (try dsimp only); omega); have frz2 : wx.frozen? ⟨w.heap.size, 2, none⟩ = false := hgx.frozen2 (v := .int .i64 0) (by first | exact f23 | go_simp) (by (try dsimp only); omega) (by first | exact z23 | go_simp); have fr3 : wx.cell? ⟨w.heap.size, 3, none⟩ = some (.int .i64 0) := hgx.cell2 (by first | exact f24 | go_simp) (by (try dsimp only); omega); have frz3 : wx.frozen? ⟨w.heap.size, 3, none⟩ = false := hgx.frozen2 (v := .int .i64 0) (by first | exact f24 | go_simp) (by (try dsimp only); omega) (by first | exact z24 | go_simp); have fr4 : wx.cell? ⟨w.heap.size + 1, 0, none⟩ = some (.int .i64 0) := hgx.cell2 (by first | exact f25 | go_simp) (by (try dsimp only); omega); have frz4 : wx.frozen? ⟨w.heap.size + 1, 0, none⟩ = false := hgx.frozen2 (v := .int .i64 0) (by first | exact f25 | go_simp) (by (try dsimp only); omega) (by first | exact z25 | go_simp); have fr5 : wx.cell? ⟨w.heap.size + 1, 1, none⟩ = some (.int .i64 0) := hgx.cell2 (by first | exact f26 | go_simp) (by (try dsimp only); omega); have frz5 : wx.frozen? ⟨w.heap.size + 1, 1, none⟩ = false := hgx.frozen2 (v := .int .i64 0) (by first | exact f26 | go_simp) (by (try dsimp only); omega) (by first | exact z26 | go_simp); have fr6 : wx.cell? ⟨w.heap.size + 1, 2, none⟩ = some (.int .i64 0) := hgx.cell2 (by first | exact f27 | go_simp) (by (try dsimp only); omega); have frz6 : wx.frozen? ⟨w.heap.size + 1, 2, none⟩ = false := hgx.frozen2 (v := .int .i64 0) (by first | exact f27 | go_simp) (by (try dsimp only); omega) (by first | exact z27 | go_simp); have fr7 : wx.cell? ⟨w.heap.size + 1, 3, none⟩ = some (.int .i64 0) := hgx.cell2 (by first | exact f28 | go_simp) (by (try dsimp only); omega); have frz7 : wx.frozen? ⟨w.heap.size + 1, 3, none⟩ = false := hgx.frozen2 (v := .int .i64 0) (by first | exact f28 | go_simp) (by (try dsimp only); omega) (by first | exact z28 | go_simp); have fr8 : wx.cell? ⟨w2.heap.size, 0, none⟩ = some (.int .i64 p1) := hgx.cell2 (by first | exact f29 | go_simp) (by (try dsimp only); omega); have frz8 : wx.frozen? ⟨w2.heap.size, 0, none⟩ = false := hgx.frozen2 (v := .int .i64 p1) (by first | exact f29 | go_simp) (by (try dsimp only); omega) (by first | exact z29 | go_simp); have fr9 : wx.cell? ⟨w2.heap.size, 1, none⟩ = some (.int .i64 q1) := hgx.cell2 (by first | exact f30 | go_simp) (by (try dsimp only); omega); have frz9 : wx.frozen? ⟨w2.heap.size, 1, none⟩ = false := hgx.frozen2 (v := .int .i64 q1) (by first | exact f30 | go_simp) (by (try dsimp only); omega) (by first | exact z30 | go_simp); have fr10 : wx.cell? ⟨w2.heap.size, 2, none⟩ = some (.int .i64 r1) := hgx.cell2 (by first | exact f31 | go_simp) (by (try dsimp only); omega); have frz10 : wx.frozen? ⟨w2.heap.size, 2, none⟩ = false := hgx.frozen2 (v := .int .i64 r1) (by first | exact f31 | go_simp) (by (try dsimp only); omega) (by first | exact z31 | go_simp); have fr11 : wx.cell? ⟨w2.heap.size, 3, none⟩ = some (.int .i64 t1) := hgx.cell2 (by first | exact f32 | go_simp) (by (try dsimp only); omega); have frz11 : wx.frozen? ⟨w2.heap.size, 3, none⟩ = false := hgx.frozen2 (v := .int .i64 t1) (by first | exact f32 | go_simp) (by (try dsimp only); omega) (by first | exact z32 | go_simp); have fr12 : wx.cell? ⟨w2.heap.size + 1, 0, none⟩ = some (.int .i64 p2) := hgx.cell2 (by first | exact f33 | go_simp) (by (try dsimp only); omega); have frz12 : wx.frozen? ⟨w2.heap.size + 1, 0, none⟩ = false := hgx.frozen2 (v := .int .i64 p2) (by first | exact f33 | go_simp) (by (try dsimp only); omega) (by first | exact z33 | go_simp); have fr13 : wx.cell? ⟨w2.heap.size + 1, 1, none⟩ = some (.int .i64 q2) := hgx.cell2 (by first | exact f34 | go_simp) (by (try dsimp only); omega); have frz13 : wx.frozen? ⟨w2.heap.size + 1, 1, none⟩ = false := hgx.frozen2 (v := .int .i64 q2) (by first | exact f34 | go_simp) (by (try dsimp only); omega) (by first | exact z34 | go_simp); have fr14 : wx.cell? ⟨w2.heap.size + 1, 2, none⟩ = some (.int .i64 r2) := hgx.cell2 (by first | exact f35 | go_simp) (by (try dsimp only); omega); have frz14 : wx.frozen? ⟨w2.heap.size + 1, 2, none⟩ = false := hgx.frozen2 (v := .int .i64 r2) (by first | exact f35 | go_simp) (by (try dsimp only); omega) (by first | exact z35 | go_simp); have fr15 : wx.cell? ⟨w2.heap.size + 1, 3, none⟩ = some (.int .i64 t2) := hgx.cell2 (by first | exact f36 | go_simp) (by (try dsimp only); omega); have frz15 : wx.frozen? ⟨w2.heap.size + 1, 3, none⟩ = false := hgx.frozen2 (v := .int .i64 t2) (by first | exact f36 | go_simp) (by (try dsimp only); omega) (by first | exact z36 | go_simp); have hTx : Below w.heap.size w wx := Below.trans (Below.drew hT3) (hgx.to_below (by omega) (by (try simp only [World.size_alloc, World.size_drew, size_drewN, World.size_setCell]); omega)); have lsx := hSx.lt; have hZx := hTx.size))
  have n51 : ¬ w.heap.size = w2.heap.size := (by omega)
  have n52 : ¬ w.heap.size = w2.heap.size + 1 := (by omega)
  have n53 : ¬ w.heap.size + 1 = w2.heap.size := (by omega)
  have n54 : ¬ w.heap.size + 1 = w2.heap.size + 1 := (by omega)
  have n55 : ¬ w.heap.size = w2.heap.size := (by omega)
  have n56 : ¬ w2.heap.size = w.heap.size := (by omega)
  have n57 : ¬ w2.heap.size = w.heap.size + 1 := (by omega)
  have n58 : ¬ w2.heap.size + 1 = w.heap.size := (by omega)
  have n59 : ¬ w2.heap.size + 1 = w.heap.size + 1 := (by omega)
  have n60 : ¬ w2.heap.size = w.heap.size := (by omega)
  go_wp2
  refine bodyPost_ret (v := .tuple #[.agg #[.int .i64 p1, .int .i64 q1, .int .i64 r1, .int .i64 t1], .agg #[.int .i64 p2, .int .i64 q2, .int .i64 r2, .int .i64 t2], .int .i64 x]) (by simp [results, Try.results66, go_sem, fr0, fr1, fr2, fr3, fr4, fr5, fr6, fr7, fr8, fr9, fr10, fr11, fr12, fr13, fr14, fr15, frz0, frz1, frz2, frz3, frz4, frz5, frz6, frz7, frz8, frz9, frz10, frz11, frz12, frz13, frz14, frz15, n51, n52, n53, n54, n55, n56, n57, n58, n59, n60]) rfl ⟨p1, q1, r1, t1, p2, q2, r2, t2, x, rfl, (by repeat (first | with_reducible exact hTx | with_reducible exact Below.refl _ _ | with_reducible refine Below.alloc ?_ (by (try simp only [World.size_alloc, World.size_drew, size_drewN, World.size_setCell]); omega) _ | with_reducible refine Below.setCell ?_ (by (try dsimp only); omega) _ | with_reducible refine below_drewN ?_ _ | with_reducible refine Below.drew ?_))⟩
end Go.Proofs.Ytoccglmlpobeeaa
