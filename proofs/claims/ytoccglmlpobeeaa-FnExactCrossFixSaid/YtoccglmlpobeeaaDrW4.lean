/- walks: what the laws draw -/
import Derived.Test.YtoccglmlpobeeaaDrW3
import Derived.Deep.DeepCutAuto
set_option linter.unusedVariables false
set_option linter.unusedSimpArgs false
namespace Go.Proofs.Ytoccglmlpobeeaa
open Go.RowKit
def SidePost (w : World) (en : Ending) (w9 : World) : Prop := ∃ x1 y1 x2 y2 x3 y3 : Int, en = .returned (.tuple #[.agg #[.int .i64 x1, .int .i64 y1], .agg #[.int .i64 x2, .int .i64 y2], .agg #[.int .i64 x3, .int .i64 y3]]) ∧ Below w.heap.size w w9
set_option maxHeartbeats 8000000 in
theorem dSide_any (A : Option Addr) (n c : Nat) (w : World) (hr : RdB w A n) (hm : n ≤ 4096) : Calls Try.prog 63 #[.slice A n c] w (SidePost w) := by
  go_enter Try.func63, Try.ntmps63
  go_wp2_with fail
  refine (from_any A n c _ (RdB.below hr (by repeat (first | with_reducible exact Below.refl _ _ | with_reducible exact Below.refl _ _ | with_reducible refine Below.alloc ?_ (by (try simp only [World.size_alloc, World.size_drew, size_drewN, World.size_setCell]); omega) _ | with_reducible refine Below.setCell ?_ (by (try dsimp only); omega) _ | with_reducible refine below_drewN ?_ _ | with_reducible refine Below.drew ?_))) hm).mono ?_
  rintro en w1 ⟨s, rfl, hs1, hS1, hb1⟩
  (try simp only [World.size_alloc, World.size_drew, size_drewN, World.size_setCell] at hs1)
  have hT1 : Below w.heap.size w w1 := Below.trans (by repeat (first | with_reducible exact Below.refl _ _ | with_reducible exact Below.refl _ _ | with_reducible refine Below.alloc ?_ (by (try simp only [World.size_alloc, World.size_drew, size_drewN, World.size_setCell]); omega) _ | with_reducible refine Below.setCell ?_ (by (try dsimp only); omega) _ | with_reducible refine below_drewN ?_ _ | with_reducible refine Below.drew ?_)) (hb1.mono (by (try simp only [World.size_alloc, World.size_drew, size_drewN, World.size_setCell]); omega))
  have f1 : w1.cell? ⟨w.heap.size, 0, none⟩ = some (.int .i64 0) := later hb1 (by first | go_simp | go_keep)
  have z1 : w1.frozen? ⟨w.heap.size, 0, none⟩ = false := laterF (v := .int .i64 0) hb1 (by first | go_simp | go_keep) (by first | go_simp | go_keep)
  have f2 : w1.cell? ⟨w.heap.size, 1, none⟩ = some (.int .i64 0) := later hb1 (by first | go_simp | go_keep)
  have z2 : w1.frozen? ⟨w.heap.size, 1, none⟩ = false := laterF (v := .int .i64 0) hb1 (by first | go_simp | go_keep) (by first | go_simp | go_keep)
  have f3 : w1.cell? ⟨w.heap.size + 1, 0, none⟩ = some (.int .i64 0) := later hb1 (by first | go_simp | go_keep)
  have z3 : w1.frozen? ⟨w.heap.size + 1, 0, none⟩ = false := laterF (v := .int .i64 0) hb1 (by first | go_simp | go_keep) (by first | go_simp | go_keep)
  have f4 : w1.cell? ⟨w.heap.size + 1, 1, none⟩ = some (.int .i64 0) := later hb1 (by first | go_simp | go_keep)
  have z4 : w1.frozen? ⟨w.heap.size + 1, 1, none⟩ = false := laterF (v := .int .i64 0) hb1 (by first | go_simp | go_keep) (by first | go_simp | go_keep)
  have f5 : w1.cell? ⟨w.heap.size + 2, 0, none⟩ = some (.int .i64 0) := later hb1 (by first | go_simp | go_keep)
  have z5 : w1.frozen? ⟨w.heap.size + 2, 0, none⟩ = false := laterF (v := .int .i64 0) hb1 (by first | go_simp | go_keep) (by first | go_simp | go_keep)
  have f6 : w1.cell? ⟨w.heap.size + 2, 1, none⟩ = some (.int .i64 0) := later hb1 (by first | go_simp | go_keep)
  have z6 : w1.frozen? ⟨w.heap.size + 2, 1, none⟩ = false := laterF (v := .int .i64 0) hb1 (by first | go_simp | go_keep) (by first | go_simp | go_keep)
  have l7 : w.heap.size < w1.heap.size := World.block_lt_of_cell? _ _ f1
  have l8 : w.heap.size + 1 < w1.heap.size := World.block_lt_of_cell? _ _ f3
  have l9 : w.heap.size + 2 < w1.heap.size := World.block_lt_of_cell? _ _ f5
  have hZ1 := hT1.size
  have ls1 := hS1.lt
  go_wp2_with fail
  refine (dPoint_any s _ _ _ (by repeat (first | with_reducible exact hS1 | with_reducible refine Src.alloc ?_ _ | with_reducible refine Src.set ?_ (by omega) (by omega) | with_reducible refine Src.drewN ?_ _ | with_reducible refine Src.drew ?_))).mono ?_
  rintro en w2 ⟨x1, y1, rfl, hS2, hg2⟩
  have hT2 : Below w.heap.size w w2 := Below.trans (by repeat (first | with_reducible exact hT1 | with_reducible exact Below.refl _ _ | with_reducible refine Below.alloc ?_ (by (try simp only [World.size_alloc, World.size_drew, size_drewN, World.size_setCell]); omega) _ | with_reducible refine Below.setCell ?_ (by (try dsimp only); omega) _ | with_reducible refine below_drewN ?_ _ | with_reducible refine Below.drew ?_)) (hg2.to_below (by omega) (by (try simp only [World.size_alloc, World.size_drew, size_drewN, World.size_setCell]); omega))
  have f10 : w2.cell? ⟨w.heap.size, 0, none⟩ = some (.int .i64 0) := hg2.cell2 (by first | (go_simp; done) | exact later (by repeat (first | exact Below.refl _ _ | refine Below.alloc ?_ (by (try simp only [World.size_alloc]); omega) _)) f1 | go_keep) (by (try dsimp only); omega)
  have z10 : w2.frozen? ⟨w.heap.size, 0, none⟩ = false := hg2.frozen2 (v := .int .i64 0) (by first | (go_simp; done) | exact later (by repeat (first | exact Below.refl _ _ | refine Below.alloc ?_ (by (try simp only [World.size_alloc]); omega) _)) f1 | go_keep) (by (try dsimp only); omega) (by first | (go_simp; done) | exact laterF (by repeat (first | exact Below.refl _ _ | refine Below.alloc ?_ (by (try simp only [World.size_alloc]); omega) _)) f1 z1 | go_keep)
  clear f1 z1
  have f11 : w2.cell? ⟨w.heap.size, 1, none⟩ = some (.int .i64 0) := hg2.cell2 (by first | (go_simp; done) | exact later (by repeat (first | exact Below.refl _ _ | refine Below.alloc ?_ (by (try simp only [World.size_alloc]); omega) _)) f2 | go_keep) (by (try dsimp only); omega)
  have z11 : w2.frozen? ⟨w.heap.size, 1, none⟩ = false := hg2.frozen2 (v := .int .i64 0) (by first | (go_simp; done) | exact later (by repeat (first | exact Below.refl _ _ | refine Below.alloc ?_ (by (try simp only [World.size_alloc]); omega) _)) f2 | go_keep) (by (try dsimp only); omega) (by first | (go_simp; done) | exact laterF (by repeat (first | exact Below.refl _ _ | refine Below.alloc ?_ (by (try simp only [World.size_alloc]); omega) _)) f2 z2 | go_keep)
  clear f2 z2
  have f12 : w2.cell? ⟨w.heap.size + 1, 0, none⟩ = some (.int .i64 0) := hg2.cell2 (by first | (go_simp; done) | exact later (by repeat (first | exact Below.refl _ _ | refine Below.alloc ?_ (by (try simp only [World.size_alloc]); omega) _)) f3 | go_keep) (by (try dsimp only); omega)
  have z12 : w2.frozen? ⟨w.heap.size + 1, 0, none⟩ = false := hg2.frozen2 (v := .int .i64 0) (by first | (go_simp; done) | exact later (by repeat (first | exact Below.refl _ _ | refine Below.alloc ?_ (by (try simp only [World.size_alloc]); omega) _)) f3 | go_keep) (by (try dsimp only); omega) (by first | (go_simp; done) | exact laterF (by repeat (first | exact Below.refl _ _ | refine Below.alloc ?_ (by (try simp only [World.size_alloc]); omega) _)) f3 z3 | go_keep)
  clear f3 z3
  have f13 : w2.cell? ⟨w.heap.size + 1, 1, none⟩ = some (.int .i64 0) := hg2.cell2 (by first | (go_simp; done) | exact later (by repeat (first | exact Below.refl _ _ | refine Below.alloc ?_ (by (try simp only [World.size_alloc]); omega) _)) f4 | go_keep) (by (try dsimp only); omega)
  have z13 : w2.frozen? ⟨w.heap.size + 1, 1, none⟩ = false := hg2.frozen2 (v := .int .i64 0) (by first | (go_simp; done) | exact later (by repeat (first | exact Below.refl _ _ | refine Below.alloc ?_ (by (try simp only [World.size_alloc]); omega) _)) f4 | go_keep) (by (try dsimp only); omega) (by first | (go_simp; done) | exact laterF (by repeat (first | exact Below.refl _ _ | refine Below.alloc ?_ (by (try simp only [World.size_alloc]); omega) _)) f4 z4 | go_keep)
  clear f4 z4
  have f14 : w2.cell? ⟨w.heap.size + 2, 0, none⟩ = some (.int .i64 0) := hg2.cell2 (by first | (go_simp; done) | exact later (by repeat (first | exact Below.refl _ _ | refine Below.alloc ?_ (by (try simp only [World.size_alloc]); omega) _)) f5 | go_keep) (by (try dsimp only); omega)
  have z14 : w2.frozen? ⟨w.heap.size + 2, 0, none⟩ = false := hg2.frozen2 (v := .int .i64 0) (by first | (go_simp; done) | exact later (by repeat (first | exact Below.refl _ _ | refine Below.alloc ?_ (by (try simp only [World.size_alloc]); omega) _)) f5 | go_keep) (by (try dsimp only); omega) (by first | (go_simp; done) | exact laterF (by repeat (first | exact Below.refl _ _ | refine Below.alloc ?_ (by (try simp only [World.size_alloc]); omega) _)) f5 z5 | go_keep)
  clear f5 z5
  have f15 : w2.cell? ⟨w.heap.size + 2, 1, none⟩ = some (.int .i64 0) := hg2.cell2 (by first | (go_simp; done) | exact later (by repeat (first | exact Below.refl _ _ | refine Below.alloc ?_ (by (try simp only [World.size_alloc]); omega) _)) f6 | go_keep) (by (try dsimp only); omega)
  have z15 : w2.frozen? ⟨w.heap.size + 2, 1, none⟩ = false := hg2.frozen2 (v := .int .i64 0) (by first | (go_simp; done) | exact later (by repeat (first | exact Below.refl _ _ | refine Below.alloc ?_ (by (try simp only [World.size_alloc]); omega) _)) f6 | go_keep) (by (try dsimp only); omega) (by first | (go_simp; done) | exact laterF (by repeat (first | exact Below.refl _ _ | refine Below.alloc ?_ (by (try simp only [World.size_alloc]); omega) _)) f6 z6 | go_keep)
  clear f6 z6
  have l16 : w.heap.size < w2.heap.size := World.block_lt_of_cell? _ _ f10
  have l17 : w.heap.size + 1 < w2.heap.size := World.block_lt_of_cell? _ _ f12
  have l18 : w.heap.size + 2 < w2.heap.size := World.block_lt_of_cell? _ _ f14
  have hZ2 := hT2.size
  have ls2 := hS2.lt
  go_wp2_with fail
  refine (dBear_any s _ (by repeat (first | with_reducible exact hS2 | with_reducible refine Src.alloc ?_ _ | with_reducible refine Src.set ?_ (by omega) (by omega) | with_reducible refine Src.drewN ?_ _ | with_reducible refine Src.drew ?_))).mono ?_
  rintro en w3 ⟨x2, y2, rfl, hS3, hg3⟩
  have hT3 : Below w.heap.size w w3 := Below.trans (by repeat (first | with_reducible exact hT2 | with_reducible exact Below.refl _ _ | with_reducible refine Below.alloc ?_ (by (try simp only [World.size_alloc, World.size_drew, size_drewN, World.size_setCell]); omega) _ | with_reducible refine Below.setCell ?_ (by (try dsimp only); omega) _ | with_reducible refine below_drewN ?_ _ | with_reducible refine Below.drew ?_)) (hg3.to_below (by omega) (by (try simp only [World.size_alloc, World.size_drew, size_drewN, World.size_setCell]); omega))
  have f19 : w3.cell? ⟨w.heap.size, 0, none⟩ = some (.int .i64 0) := hg3.cell2 (by first | (go_simp; done) | exact later (by repeat (first | exact Below.refl _ _ | refine Below.alloc ?_ (by (try simp only [World.size_alloc]); omega) _)) f10 | go_keep) (by (try dsimp only); omega)
  have z19 : w3.frozen? ⟨w.heap.size, 0, none⟩ = false := hg3.frozen2 (v := .int .i64 0) (by first | (go_simp; done) | exact later (by repeat (first | exact Below.refl _ _ | refine Below.alloc ?_ (by (try simp only [World.size_alloc]); omega) _)) f10 | go_keep) (by (try dsimp only); omega) (by first | (go_simp; done) | exact laterF (by repeat (first | exact Below.refl _ _ | refine Below.alloc ?_ (by (try simp only [World.size_alloc]); omega) _)) f10 z10 | go_keep)
  clear f10 z10
  have f20 : w3.cell? ⟨w.heap.size, 1, none⟩ = some (.int .i64 0) := hg3.cell2 (by first | (go_simp; done) | exact later (by repeat (first | exact Below.refl _ _ | refine Below.alloc ?_ (by (try simp only [World.size_alloc]); omega) _)) f11 | go_keep) (by (try dsimp only); omega)
  have z20 : w3.frozen? ⟨w.heap.size, 1, none⟩ = false := hg3.frozen2 (v := .int .i64 0) (by first | (go_simp; done) | exact later (by repeat (first | exact Below.refl _ _ | refine Below.alloc ?_ (by (try simp only [World.size_alloc]); omega) _)) f11 | go_keep) (by (try dsimp only); omega) (by first | (go_simp; done) | exact laterF (by repeat (first | exact Below.refl _ _ | refine Below.alloc ?_ (by (try simp only [World.size_alloc]); omega) _)) f11 z11 | go_keep)
  clear f11 z11
  have f21 : w3.cell? ⟨w.heap.size + 1, 0, none⟩ = some (.int .i64 0) := hg3.cell2 (by first | (go_simp; done) | exact later (by repeat (first | exact Below.refl _ _ | refine Below.alloc ?_ (by (try simp only [World.size_alloc]); omega) _)) f12 | go_keep) (by (try dsimp only); omega)
  have z21 : w3.frozen? ⟨w.heap.size + 1, 0, none⟩ = false := hg3.frozen2 (v := .int .i64 0) (by first | (go_simp; done) | exact later (by repeat (first | exact Below.refl _ _ | refine Below.alloc ?_ (by (try simp only [World.size_alloc]); omega) _)) f12 | go_keep) (by (try dsimp only); omega) (by first | (go_simp; done) | exact laterF (by repeat (first | exact Below.refl _ _ | refine Below.alloc ?_ (by (try simp only [World.size_alloc]); omega) _)) f12 z12 | go_keep)
  clear f12 z12
  have f22 : w3.cell? ⟨w.heap.size + 1, 1, none⟩ = some (.int .i64 0) := hg3.cell2 (by first | (go_simp; done) | exact later (by repeat (first | exact Below.refl _ _ | refine Below.alloc ?_ (by (try simp only [World.size_alloc]); omega) _)) f13 | go_keep) (by (try dsimp only); omega)
  have z22 : w3.frozen? ⟨w.heap.size + 1, 1, none⟩ = false := hg3.frozen2 (v := .int .i64 0) (by first | (go_simp; done) | exact later (by repeat (first | exact Below.refl _ _ | refine Below.alloc ?_ (by (try simp only [World.size_alloc]); omega) _)) f13 | go_keep) (by (try dsimp only); omega) (by first | (go_simp; done) | exact laterF (by repeat (first | exact Below.refl _ _ | refine Below.alloc ?_ (by (try simp only [World.size_alloc]); omega) _)) f13 z13 | go_keep)
  clear f13 z13
  have f23 : w3.cell? ⟨w.heap.size + 2, 0, none⟩ = some (.int .i64 0) := hg3.cell2 (by first | (go_simp; done) | exact later (by repeat (first | exact Below.refl _ _ | refine Below.alloc ?_ (by (try simp only [World.size_alloc]); omega) _)) f14 | go_keep) (by (try dsimp only); omega)
  have z23 : w3.frozen? ⟨w.heap.size + 2, 0, none⟩ = false := hg3.frozen2 (v := .int .i64 0) (by first | (go_simp; done) | exact later (by repeat (first | exact Below.refl _ _ | refine Below.alloc ?_ (by (try simp only [World.size_alloc]); omega) _)) f14 | go_keep) (by (try dsimp only); omega) (by first | (go_simp; done) | exact laterF (by repeat (first | exact Below.refl _ _ | refine Below.alloc ?_ (by (try simp only [World.size_alloc]); omega) _)) f14 z14 | go_keep)
  clear f14 z14
  have f24 : w3.cell? ⟨w.heap.size + 2, 1, none⟩ = some (.int .i64 0) := hg3.cell2 (by first | (go_simp; done) | exact later (by repeat (first | exact Below.refl _ _ | refine Below.alloc ?_ (by (try simp only [World.size_alloc]); omega) _)) f15 | go_keep) (by (try dsimp only); omega)
  have z24 : w3.frozen? ⟨w.heap.size + 2, 1, none⟩ = false := hg3.frozen2 (v := .int .i64 0) (by first | (go_simp; done) | exact later (by repeat (first | exact Below.refl _ _ | refine Below.alloc ?_ (by (try simp only [World.size_alloc]); omega) _)) f15 | go_keep) (by (try dsimp only); omega) (by first | (go_simp; done) | exact laterF (by repeat (first | exact Below.refl _ _ | refine Below.alloc ?_ (by (try simp only [World.size_alloc]); omega) _)) f15 z15 | go_keep)
  clear f15 z15
  have l25 : w.heap.size < w3.heap.size := World.block_lt_of_cell? _ _ f19
  have l26 : w.heap.size + 1 < w3.heap.size := World.block_lt_of_cell? _ _ f21
  have l27 : w.heap.size + 2 < w3.heap.size := World.block_lt_of_cell? _ _ f23
  have hZ3 := hT3.size
  have ls3 := hS3.lt
  go_wp2_with fail
  refine (next_any s _ _ (by repeat (first | with_reducible exact hS3 | with_reducible refine Src.alloc ?_ _ | with_reducible refine Src.set ?_ (by omega) (by omega) | with_reducible refine Src.drewN ?_ _ | with_reducible refine Src.drew ?_))).mono ?_
  rintro en w4 ⟨e, rfl, a1, b1, hS4, hg4⟩
  have hT4 : Below w.heap.size w w4 := Below.trans (by repeat (first | with_reducible exact hT3 | with_reducible exact Below.refl _ _ | with_reducible refine Below.alloc ?_ (by (try simp only [World.size_alloc, World.size_drew, size_drewN, World.size_setCell]); omega) _ | with_reducible refine Below.setCell ?_ (by (try dsimp only); omega) _ | with_reducible refine below_drewN ?_ _ | with_reducible refine Below.drew ?_)) (hg4.to_below (by omega) (by (try simp only [World.size_alloc, World.size_drew, size_drewN, World.size_setCell]); omega))
  have f28 : w4.cell? ⟨w.heap.size, 0, none⟩ = some (.int .i64 0) := hg4.cell2 (by first | (go_simp; done) | exact later (by repeat (first | exact Below.refl _ _ | refine Below.alloc ?_ (by (try simp only [World.size_alloc]); omega) _)) f19 | go_keep) (by (try dsimp only); omega)
  have z28 : w4.frozen? ⟨w.heap.size, 0, none⟩ = false := hg4.frozen2 (v := .int .i64 0) (by first | (go_simp; done) | exact later (by repeat (first | exact Below.refl _ _ | refine Below.alloc ?_ (by (try simp only [World.size_alloc]); omega) _)) f19 | go_keep) (by (try dsimp only); omega) (by first | (go_simp; done) | exact laterF (by repeat (first | exact Below.refl _ _ | refine Below.alloc ?_ (by (try simp only [World.size_alloc]); omega) _)) f19 z19 | go_keep)
  clear f19 z19
  have f29 : w4.cell? ⟨w.heap.size, 1, none⟩ = some (.int .i64 0) := hg4.cell2 (by first | (go_simp; done) | exact later (by repeat (first | exact Below.refl _ _ | refine Below.alloc ?_ (by (try simp only [World.size_alloc]); omega) _)) f20 | go_keep) (by (try dsimp only); omega)
  have z29 : w4.frozen? ⟨w.heap.size, 1, none⟩ = false := hg4.frozen2 (v := .int .i64 0) (by first | (go_simp; done) | exact later (by repeat (first | exact Below.refl _ _ | refine Below.alloc ?_ (by (try simp only [World.size_alloc]); omega) _)) f20 | go_keep) (by (try dsimp only); omega) (by first | (go_simp; done) | exact laterF (by repeat (first | exact Below.refl _ _ | refine Below.alloc ?_ (by (try simp only [World.size_alloc]); omega) _)) f20 z20 | go_keep)
  clear f20 z20
  have f30 : w4.cell? ⟨w.heap.size + 1, 0, none⟩ = some (.int .i64 0) := hg4.cell2 (by first | (go_simp; done) | exact later (by repeat (first | exact Below.refl _ _ | refine Below.alloc ?_ (by (try simp only [World.size_alloc]); omega) _)) f21 | go_keep) (by (try dsimp only); omega)
  have z30 : w4.frozen? ⟨w.heap.size + 1, 0, none⟩ = false := hg4.frozen2 (v := .int .i64 0) (by first | (go_simp; done) | exact later (by repeat (first | exact Below.refl _ _ | refine Below.alloc ?_ (by (try simp only [World.size_alloc]); omega) _)) f21 | go_keep) (by (try dsimp only); omega) (by first | (go_simp; done) | exact laterF (by repeat (first | exact Below.refl _ _ | refine Below.alloc ?_ (by (try simp only [World.size_alloc]); omega) _)) f21 z21 | go_keep)
  clear f21 z21
  have f31 : w4.cell? ⟨w.heap.size + 1, 1, none⟩ = some (.int .i64 0) := hg4.cell2 (by first | (go_simp; done) | exact later (by repeat (first | exact Below.refl _ _ | refine Below.alloc ?_ (by (try simp only [World.size_alloc]); omega) _)) f22 | go_keep) (by (try dsimp only); omega)
  have z31 : w4.frozen? ⟨w.heap.size + 1, 1, none⟩ = false := hg4.frozen2 (v := .int .i64 0) (by first | (go_simp; done) | exact later (by repeat (first | exact Below.refl _ _ | refine Below.alloc ?_ (by (try simp only [World.size_alloc]); omega) _)) f22 | go_keep) (by (try dsimp only); omega) (by first | (go_simp; done) | exact laterF (by repeat (first | exact Below.refl _ _ | refine Below.alloc ?_ (by (try simp only [World.size_alloc]); omega) _)) f22 z22 | go_keep)
  clear f22 z22
  have f32 : w4.cell? ⟨w.heap.size + 2, 0, none⟩ = some (.int .i64 0) := hg4.cell2 (by first | (go_simp; done) | exact later (by repeat (first | exact Below.refl _ _ | refine Below.alloc ?_ (by (try simp only [World.size_alloc]); omega) _)) f23 | go_keep) (by (try dsimp only); omega)
  have z32 : w4.frozen? ⟨w.heap.size + 2, 0, none⟩ = false := hg4.frozen2 (v := .int .i64 0) (by first | (go_simp; done) | exact later (by repeat (first | exact Below.refl _ _ | refine Below.alloc ?_ (by (try simp only [World.size_alloc]); omega) _)) f23 | go_keep) (by (try dsimp only); omega) (by first | (go_simp; done) | exact laterF (by repeat (first | exact Below.refl _ _ | refine Below.alloc ?_ (by (try simp only [World.size_alloc]); omega) _)) f23 z23 | go_keep)
  clear f23 z23
  have f33 : w4.cell? ⟨w.heap.size + 2, 1, none⟩ = some (.int .i64 0) := hg4.cell2 (by first | (go_simp; done) | exact later (by repeat (first | exact Below.refl _ _ | refine Below.alloc ?_ (by (try simp only [World.size_alloc]); omega) _)) f24 | go_keep) (by (try dsimp only); omega)
  have z33 : w4.frozen? ⟨w.heap.size + 2, 1, none⟩ = false := hg4.frozen2 (v := .int .i64 0) (by first | (go_simp; done) | exact later (by repeat (first | exact Below.refl _ _ | refine Below.alloc ?_ (by (try simp only [World.size_alloc]); omega) _)) f24 | go_keep) (by (try dsimp only); omega) (by first | (go_simp; done) | exact laterF (by repeat (first | exact Below.refl _ _ | refine Below.alloc ?_ (by (try simp only [World.size_alloc]); omega) _)) f24 z24 | go_keep)
  clear f24 z24
  have f34 : w4.cell? ⟨w3.heap.size, 0, none⟩ = some (.int .i64 x1) := hg4.cell2 (by first | (go_simp; done) | go_keep) (by (try dsimp only); omega)
  have z34 : w4.frozen? ⟨w3.heap.size, 0, none⟩ = false := hg4.frozen2 (v := .int .i64 x1) (by first | (go_simp; done) | go_keep) (by (try dsimp only); omega) (by first | (go_simp; done) | go_keep)
  have f35 : w4.cell? ⟨w3.heap.size, 1, none⟩ = some (.int .i64 y1) := hg4.cell2 (by first | (go_simp; done) | go_keep) (by (try dsimp only); omega)
  have z35 : w4.frozen? ⟨w3.heap.size, 1, none⟩ = false := hg4.frozen2 (v := .int .i64 y1) (by first | (go_simp; done) | go_keep) (by (try dsimp only); omega) (by first | (go_simp; done) | go_keep)
  have f36 : w4.cell? ⟨w3.heap.size + 1, 0, none⟩ = some (.int .i64 x2) := hg4.cell2 (by first | (go_simp; done) | go_keep) (by (try dsimp only); omega)
  have z36 : w4.frozen? ⟨w3.heap.size + 1, 0, none⟩ = false := hg4.frozen2 (v := .int .i64 x2) (by first | (go_simp; done) | go_keep) (by (try dsimp only); omega) (by first | (go_simp; done) | go_keep)
  have f37 : w4.cell? ⟨w3.heap.size + 1, 1, none⟩ = some (.int .i64 y2) := hg4.cell2 (by first | (go_simp; done) | go_keep) (by (try dsimp only); omega)
  have z37 : w4.frozen? ⟨w3.heap.size + 1, 1, none⟩ = false := hg4.frozen2 (v := .int .i64 y2) (by first | (go_simp; done) | go_keep) (by (try dsimp only); omega) (by first | (go_simp; done) | go_keep)
  have l38 : w.heap.size < w4.heap.size := World.block_lt_of_cell? _ _ f28
  have l39 : w.heap.size + 1 < w4.heap.size := World.block_lt_of_cell? _ _ f30
  have l40 : w.heap.size + 2 < w4.heap.size := World.block_lt_of_cell? _ _ f32
  have l41 : w3.heap.size < w4.heap.size := World.block_lt_of_cell? _ _ f34
  have l42 : w3.heap.size + 1 < w4.heap.size := World.block_lt_of_cell? _ _ f36
  have hZ4 := hT4.size
  have ls4 := hS4.lt
  clear a1 b1
  by_cases e0 : e = 0
  · have e1 : (e == 0) = true := by simpa using e0
    clear e0
    go_wp2_with fail
    refine (next_any s _ _ (by repeat (first | with_reducible exact hS4 | with_reducible refine Src.alloc ?_ _ | with_reducible refine Src.set ?_ (by omega) (by omega) | with_reducible refine Src.drewN ?_ _ | with_reducible refine Src.drew ?_))).mono ?_
    rintro en w5 ⟨k, rfl, a1, b1, hS5, hg5⟩
    have hT5 : Below w.heap.size w w5 := Below.trans (by repeat (first | with_reducible exact hT4 | with_reducible exact Below.refl _ _ | with_reducible refine Below.alloc ?_ (by (try simp only [World.size_alloc, World.size_drew, size_drewN, World.size_setCell]); omega) _ | with_reducible refine Below.setCell ?_ (by (try dsimp only); omega) _ | with_reducible refine below_drewN ?_ _ | with_reducible refine Below.drew ?_)) (hg5.to_below (by omega) (by (try simp only [World.size_alloc, World.size_drew, size_drewN, World.size_setCell]); omega))
    have f43 : w5.cell? ⟨w.heap.size, 0, none⟩ = some (.int .i64 0) := hg5.cell2 (by first | (go_simp; done) | exact later (by repeat (first | exact Below.refl _ _ | refine Below.alloc ?_ (by (try simp only [World.size_alloc]); omega) _)) f28 | go_keep) (by (try dsimp only); omega)
    have z43 : w5.frozen? ⟨w.heap.size, 0, none⟩ = false := hg5.frozen2 (v := .int .i64 0) (by first | (go_simp; done) | exact later (by repeat (first | exact Below.refl _ _ | refine Below.alloc ?_ (by (try simp only [World.size_alloc]); omega) _)) f28 | go_keep) (by (try dsimp only); omega) (by first | (go_simp; done) | exact laterF (by repeat (first | exact Below.refl _ _ | refine Below.alloc ?_ (by (try simp only [World.size_alloc]); omega) _)) f28 z28 | go_keep)
    clear f28 z28
    have f44 : w5.cell? ⟨w.heap.size, 1, none⟩ = some (.int .i64 0) := hg5.cell2 (by first | (go_simp; done) | exact later (by repeat (first | exact Below.refl _ _ | refine Below.alloc ?_ (by (try simp only [World.size_alloc]); omega) _)) f29 | go_keep) (by (try dsimp only); omega)
    have z44 : w5.frozen? ⟨w.heap.size, 1, none⟩ = false := hg5.frozen2 (v := .int .i64 0) (by first | (go_simp; done) | exact later (by repeat (first | exact Below.refl _ _ | refine Below.alloc ?_ (by (try simp only [World.size_alloc]); omega) _)) f29 | go_keep) (by (try dsimp only); omega) (by first | (go_simp; done) | exact laterF (by repeat (first | exact Below.refl _ _ | refine Below.alloc ?_ (by (try simp only [World.size_alloc]); omega) _)) f29 z29 | go_keep)
    clear f29 z29
    have f45 : w5.cell? ⟨w.heap.size + 1, 0, none⟩ = some (.int .i64 0) := hg5.cell2 (by first | (go_simp; done) | exact later (by repeat (first | exact Below.refl _ _ | refine Below.alloc ?_ (by (try simp only [World.size_alloc]); omega) _)) f30 | go_keep) (by (try dsimp only); omega)
    have z45 : w5.frozen? ⟨w.heap.size + 1, 0, none⟩ = false := hg5.frozen2 (v := .int .i64 0) (by first | (go_simp; done) | exact later (by repeat (first | exact Below.refl _ _ | refine Below.alloc ?_ (by (try simp only [World.size_alloc]); omega) _)) f30 | go_keep) (by (try dsimp only); omega) (by first | (go_simp; done) | exact laterF (by repeat (first | exact Below.refl _ _ | refine Below.alloc ?_ (by (try simp only [World.size_alloc]); omega) _)) f30 z30 | go_keep)
    clear f30 z30
    have f46 : w5.cell? ⟨w.heap.size + 1, 1, none⟩ = some (.int .i64 0) := hg5.cell2 (by first | (go_simp; done) | exact later (by repeat (first | exact Below.refl _ _ | refine Below.alloc ?_ (by (try simp only [World.size_alloc]); omega) _)) f31 | go_keep) (by (try dsimp only); omega)
    have z46 : w5.frozen? ⟨w.heap.size + 1, 1, none⟩ = false := hg5.frozen2 (v := .int .i64 0) (by first | (go_simp; done) | exact later (by repeat (first | exact Below.refl _ _ | refine Below.alloc ?_ (by (try simp only [World.size_alloc]); omega) _)) f31 | go_keep) (by (try dsimp only); omega) (by first | (go_simp; done) | exact laterF (by repeat (first | exact Below.refl _ _ | refine Below.alloc ?_ (by (try simp only [World.size_alloc]); omega) _)) f31 z31 | go_keep)
    clear f31 z31
    have f47 : w5.cell? ⟨w.heap.size + 2, 0, none⟩ = some (.int .i64 0) := hg5.cell2 (by first | (go_simp; done) | exact later (by repeat (first | exact Below.refl _ _ | refine Below.alloc ?_ (by (try simp only [World.size_alloc]); omega) _)) f32 | go_keep) (by (try dsimp only); omega)
    have z47 : w5.frozen? ⟨w.heap.size + 2, 0, none⟩ = false := hg5.frozen2 (v := .int .i64 0) (by first | (go_simp; done) | exact later (by repeat (first | exact Below.refl _ _ | refine Below.alloc ?_ (by (try simp only [World.size_alloc]); omega) _)) f32 | go_keep) (by (try dsimp only); omega) (by first | (go_simp; done) | exact laterF (by repeat (first | exact Below.refl _ _ | refine Below.alloc ?_ (by (try simp only [World.size_alloc]); omega) _)) f32 z32 | go_keep)
    clear f32 z32
    have f48 : w5.cell? ⟨w.heap.size + 2, 1, none⟩ = some (.int .i64 0) := hg5.cell2 (by first | (go_simp; done) | exact later (by repeat (first | exact Below.refl _ _ | refine Below.alloc ?_ (by (try simp only [World.size_alloc]); omega) _)) f33 | go_keep) (by (try dsimp only); omega)
    have z48 : w5.frozen? ⟨w.heap.size + 2, 1, none⟩ = false := hg5.frozen2 (v := .int .i64 0) (by first | (go_simp; done) | exact later (by repeat (first | exact Below.refl _ _ | refine Below.alloc ?_ (by (try simp only [World.size_alloc]); omega) _)) f33 | go_keep) (by (try dsimp only); omega) (by first | (go_simp; done) | exact laterF (by repeat (first | exact Below.refl _ _ | refine Below.alloc ?_ (by (try simp only [World.size_alloc]); omega) _)) f33 z33 | go_keep)
    clear f33 z33
    have f49 : w5.cell? ⟨w3.heap.size, 0, none⟩ = some (.int .i64 x1) := hg5.cell2 (by first | (go_simp; done) | exact later (by repeat (first | exact Below.refl _ _ | refine Below.alloc ?_ (by (try simp only [World.size_alloc]); omega) _)) f34 | go_keep) (by (try dsimp only); omega)
    have z49 : w5.frozen? ⟨w3.heap.size, 0, none⟩ = false := hg5.frozen2 (v := .int .i64 x1) (by first | (go_simp; done) | exact later (by repeat (first | exact Below.refl _ _ | refine Below.alloc ?_ (by (try simp only [World.size_alloc]); omega) _)) f34 | go_keep) (by (try dsimp only); omega) (by first | (go_simp; done) | exact laterF (by repeat (first | exact Below.refl _ _ | refine Below.alloc ?_ (by (try simp only [World.size_alloc]); omega) _)) f34 z34 | go_keep)
    clear f34 z34
    have f50 : w5.cell? ⟨w3.heap.size, 1, none⟩ = some (.int .i64 y1) := hg5.cell2 (by first | (go_simp; done) | exact later (by repeat (first | exact Below.refl _ _ | refine Below.alloc ?_ (by (try simp only [World.size_alloc]); omega) _)) f35 | go_keep) (by (try dsimp only); omega)
    have z50 : w5.frozen? ⟨w3.heap.size, 1, none⟩ = false := hg5.frozen2 (v := .int .i64 y1) (by first | (go_simp; done) | exact later (by repeat (first | exact Below.refl _ _ | refine Below.alloc ?_ (by (try simp only [World.size_alloc]); omega) _)) f35 | go_keep) (by (try dsimp only); omega) (by first | (go_simp; done) | exact laterF (by repeat (first | exact Below.refl _ _ | refine Below.alloc ?_ (by (try simp only [World.size_alloc]); omega) _)) f35 z35 | go_keep)
    clear f35 z35
    have f51 : w5.cell? ⟨w3.heap.size + 1, 0, none⟩ = some (.int .i64 x2) := hg5.cell2 (by first | (go_simp; done) | exact later (by repeat (first | exact Below.refl _ _ | refine Below.alloc ?_ (by (try simp only [World.size_alloc]); omega) _)) f36 | go_keep) (by (try dsimp only); omega)
    have z51 : w5.frozen? ⟨w3.heap.size + 1, 0, none⟩ = false := hg5.frozen2 (v := .int .i64 x2) (by first | (go_simp; done) | exact later (by repeat (first | exact Below.refl _ _ | refine Below.alloc ?_ (by (try simp only [World.size_alloc]); omega) _)) f36 | go_keep) (by (try dsimp only); omega) (by first | (go_simp; done) | exact laterF (by repeat (first | exact Below.refl _ _ | refine Below.alloc ?_ (by (try simp only [World.size_alloc]); omega) _)) f36 z36 | go_keep)
    clear f36 z36
    have f52 : w5.cell? ⟨w3.heap.size + 1, 1, none⟩ = some (.int .i64 y2) := hg5.cell2 (by first | (go_simp; done) | exact later (by repeat (first | exact Below.refl _ _ | refine Below.alloc ?_ (by (try simp only [World.size_alloc]); omega) _)) f37 | go_keep) (by (try dsimp only); omega)
    have z52 : w5.frozen? ⟨w3.heap.size + 1, 1, none⟩ = false := hg5.frozen2 (v := .int .i64 y2) (by first | (go_simp; done) | exact later (by repeat (first | exact Below.refl _ _ | refine Below.alloc ?_ (by (try simp only [World.size_alloc]); omega) _)) f37 | go_keep) (by (try dsimp only); omega) (by first | (go_simp; done) | exact laterF (by repeat (first | exact Below.refl _ _ | refine Below.alloc ?_ (by (try simp only [World.size_alloc]); omega) _)) f37 z37 | go_keep)
    clear f37 z37
    have l53 : w.heap.size < w5.heap.size := World.block_lt_of_cell? _ _ f43
    have l54 : w.heap.size + 1 < w5.heap.size := World.block_lt_of_cell? _ _ f45
    have l55 : w.heap.size + 2 < w5.heap.size := World.block_lt_of_cell? _ _ f47
    have l56 : w3.heap.size < w5.heap.size := World.block_lt_of_cell? _ _ f49
    have l57 : w3.heap.size + 1 < w5.heap.size := World.block_lt_of_cell? _ _ f51
    have hZ5 := hT5.size
    have ls5 := hS5.lt
    clear a1 b1
    go_upto_region 5 with fail
    have n58 : ¬ w.heap.size = w3.heap.size := (by omega)
    have n59 : ¬ w.heap.size = w3.heap.size + 1 := (by omega)
    have n60 : ¬ w.heap.size + 1 = w3.heap.size := (by omega)
    have n61 : ¬ w.heap.size + 1 = w3.heap.size + 1 := (by omega)
    have n62 : ¬ w.heap.size = w3.heap.size := (by omega)
    have n63 : ¬ w.heap.size + 2 = w3.heap.size := (by omega)
    have n64 : ¬ w.heap.size + 2 = w3.heap.size + 1 := (by omega)
    have n65 : ¬ w.heap.size + 1 = w3.heap.size := (by omega)
    have n66 : ¬ w3.heap.size = w.heap.size := (by omega)
    have n67 : ¬ w3.heap.size = w.heap.size + 1 := (by omega)
    have n68 : ¬ w3.heap.size = w.heap.size + 2 := (by omega)
    have n69 : ¬ w3.heap.size + 1 = w.heap.size := (by omega)
    have n70 : ¬ w3.heap.size + 1 = w.heap.size + 1 := (by omega)
    have n71 : ¬ w3.heap.size = w.heap.size := (by omega)
    have n72 : ¬ w3.heap.size + 1 = w.heap.size + 2 := (by omega)
    have n73 : ¬ w3.heap.size = w.heap.size + 1 := (by omega)
    go_region_held3 (fun w9 => w9.cell? ⟨w3.heap.size, 0, none⟩ = some (.int .i64 x1) ∧ w9.cell? ⟨w3.heap.size, 1, none⟩ = some (.int .i64 y1) ∧ w9.cell? ⟨w3.heap.size + 1, 0, none⟩ = some (.int .i64 x2) ∧ w9.cell? ⟨w3.heap.size + 1, 1, none⟩ = some (.int .i64 y2)) (first | with_reducible assumption | go_keep) (fail)
    have n74 : ¬ w.heap.size = w3.heap.size := (by omega)
    have n75 : ¬ w.heap.size = w3.heap.size + 1 := (by omega)
    have n76 : ¬ w.heap.size + 1 = w3.heap.size := (by omega)
    have n77 : ¬ w.heap.size + 1 = w3.heap.size + 1 := (by omega)
    have n78 : ¬ w.heap.size = w3.heap.size := (by omega)
    have n79 : ¬ w.heap.size + 2 = w3.heap.size := (by omega)
    have n80 : ¬ w.heap.size + 2 = w3.heap.size + 1 := (by omega)
    have n81 : ¬ w.heap.size + 1 = w3.heap.size := (by omega)
    have n82 : ¬ w3.heap.size = w.heap.size := (by omega)
    have n83 : ¬ w3.heap.size = w.heap.size + 1 := (by omega)
    have n84 : ¬ w3.heap.size = w.heap.size + 2 := (by omega)
    have n85 : ¬ w3.heap.size + 1 = w.heap.size := (by omega)
    have n86 : ¬ w3.heap.size + 1 = w.heap.size + 1 := (by omega)
    have n87 : ¬ w3.heap.size = w.heap.size := (by omega)
    have n88 : ¬ w3.heap.size + 1 = w.heap.size + 2 := (by omega)
    have n89 : ¬ w3.heap.size = w.heap.size + 1 := (by omega)
    go_wp2
    refine bodyPost_ret (v := .tuple #[.agg #[.int .i64 x1, .int .i64 y1], .agg #[.int .i64 x2, .int .i64 y2], .agg #[.int .i64 (IntKind.i64.wrap (x1 + IntKind.i64.wrap (wrap64 (k - 4) * x2))), .int .i64 (IntKind.i64.wrap (y1 + IntKind.i64.wrap (wrap64 (k - 4) * y2)))]]) (by simp [results, Try.results63, go_sem, f43, f44, f45, f46, f47, f48, f49, f50, f51, f52, z43, z44, z45, z46, z47, z48, z49, z50, z51, z52, n74, n75, n76, n77, n78, n79, n80, n81, n82, n83, n84, n85, n86, n87, n88, n89]) rfl ⟨x1, y1, x2, y2, (IntKind.i64.wrap (x1 + IntKind.i64.wrap (wrap64 (k - 4) * x2))), (IntKind.i64.wrap (y1 + IntKind.i64.wrap (wrap64 (k - 4) * y2))), rfl, (by repeat (first | with_reducible exact hT5 | with_reducible exact Below.refl _ _ | with_reducible refine Below.alloc ?_ (by (try simp only [World.size_alloc, World.size_drew, size_drewN, World.size_setCell]); omega) _ | with_reducible refine Below.setCell ?_ (by (try dsimp only); omega) _ | with_reducible refine below_drewN ?_ _ | with_reducible refine Below.drew ?_))⟩
  · have e1 : (e == 0) = false := by simpa using e0
    clear e0
    go_upto_region 6 with fail
    have n43 : ¬ w.heap.size = w3.heap.size := (by omega)
    have n44 : ¬ w.heap.size = w3.heap.size + 1 := (by omega)
    have n45 : ¬ w.heap.size + 1 = w3.heap.size := (by omega)
    have n46 : ¬ w.heap.size + 1 = w3.heap.size + 1 := (by omega)
    have n47 : ¬ w.heap.size = w3.heap.size := (by omega)
    have n48 : ¬ w.heap.size + 2 = w3.heap.size := (by omega)
    have n49 : ¬ w.heap.size + 2 = w3.heap.size + 1 := (by omega)
    have n50 : ¬ w.heap.size + 1 = w3.heap.size := (by omega)
    have n51 : ¬ w3.heap.size = w.heap.size := (by omega)
    have n52 : ¬ w3.heap.size = w.heap.size + 1 := (by omega)
    have n53 : ¬ w3.heap.size = w.heap.size + 2 := (by omega)
    have n54 : ¬ w3.heap.size + 1 = w.heap.size := (by omega)
    have n55 : ¬ w3.heap.size + 1 = w.heap.size + 1 := (by omega)
    have n56 : ¬ w3.heap.size = w.heap.size := (by omega)
    have n57 : ¬ w3.heap.size + 1 = w.heap.size + 2 := (by omega)
    have n58 : ¬ w3.heap.size = w.heap.size + 1 := (by omega)
    go_region_held3 (fun w9 => w9.cell? ⟨w3.heap.size, 0, none⟩ = some (.int .i64 x1) ∧ w9.cell? ⟨w3.heap.size, 1, none⟩ = some (.int .i64 y1) ∧ w9.cell? ⟨w3.heap.size + 1, 0, none⟩ = some (.int .i64 x2) ∧ w9.cell? ⟨w3.heap.size + 1, 1, none⟩ = some (.int .i64 y2)) (first | with_reducible assumption | go_keep) (first | (go_at_call 105; refine (dPoint_any s _ _ _ (Src.drew hS4)).mono ?_; rintro en wx ⟨x3, y3, rfl, hSx, hgx⟩; have fr0 : wx.cell? ⟨w.heap.size, 0, none⟩ = some (.int .i64 0) := hgx.cell2 (by first | exact f28 | go_simp) (by (try dsimp only); omega); have frz0 : wx.frozen? ⟨w.heap.size, 0, none⟩ = false := hgx.frozen2 (v := .int .i64 0) (by first | exact f28 | go_simp) (by (try dsimp only); omega) (by first | exact z28 | go_simp); have fr1 : wx.cell? ⟨w.heap.size, 1, none⟩ = some (.int .i64 0) := hgx.cell2 (by first | exact f29 | go_simp) (by (try dsimp only); omega); have frz1 : wx.frozen? ⟨w.heap.size, 1, none⟩ = false := hgx.frozen2 (v := .int .i64 0) (by first | exact f29 | go_simp) (by (try dsimp only); omega) (by first | exact z29 | go_simp); have fr2 : wx.cell? ⟨w.heap.size + 1, 0, none⟩ = some (.int .i64 0) := hgx.cell2 (by first | exact f30 | go_simp) (by (try dsimp only); omega); have frz2 : wx.frozen? ⟨w.heap.size + 1, 0, none⟩ = false := hgx.frozen2 (v := .int .i64 0) (by first | exact f30 | go_simp) (by (try dsimp only); omega) (by first | exact z30 | go_simp); have fr3 : wx.cell? ⟨w.heap.size + 1, 1, none⟩ = some (.int .i64 0) := hgx.cell2 (by first | exact f31 | go_simp) (by (try dsimp only); omega); have frz3 : wx.frozen? ⟨w.heap.size + 1, 1, none⟩ = false := hgx.frozen2 (v := .int .i64 0) (by first | exact f31 | go_simp) (by (try dsimp only); omega) (by first | exact z31 | go_simp); have fr4 : wx.cell? ⟨w.heap.size + 2, 0, none⟩ = some (.int .i64 0) := hgx.cell2 (by first | exact f32 | go_simp) (by (try dsimp only); omega); have frz4 : wx.frozen? ⟨w.heap.size + 2, 0, none⟩ = false := hgx.frozen2 (v := .int .i64 0) (by first | exact f32 | go_simp) (by (try dsimp only); omega) (by first | exact z32 | go_simp); have fr5 : wx.cell? ⟨w.heap.size + 2, 1, none⟩ = some (.int .i64 0) := hgx.cell2 (by first | exact f33 | go_simp) (by (try dsimp only); omega); have frz5 : wx.frozen? ⟨w.heap.size + 2, 1, none⟩ = false := hgx.frozen2 (v := .int .i64 0) (by first | exact f33 | go_simp) (by (try dsimp only); omega) (by first | exact z33 | go_simp); have fr6 : wx.cell? ⟨w3.heap.size, 0, none⟩ = some (.int .i64 x1) := hgx.cell2 (by first | exact f34 | go_simp) (by (try dsimp only); omega); have frz6 : wx.frozen? ⟨w3.heap.size, 0, none⟩ = false := hgx.frozen2 (v := .int .i64 x1) (by first | exact f34 | go_simp) (by (try dsimp only); omega) (by first | exact z34 | go_simp); have fr7 : wx.cell? ⟨w3.heap.size, 1, none⟩ = some (.int .i64 y1) := hgx.cell2 (by first | exact f35 | go_simp) (by (try dsimp only); omega); have frz7 : wx.frozen? ⟨w3.heap.size, 1, none⟩ = false := hgx.frozen2 (v := .int .i64 y1) (by first | exact f35 | go_simp) (by (try dsimp only); omega) (by first | exact z35 | go_simp); have fr8 : wx.cell? ⟨w3.heap.size + 1, 0, none⟩ = some (.int .i64 x2) := hgx.cell2 (by first | exact f36 | go_simp) (by (try dsimp only); omega); have frz8 : wx.frozen? ⟨w3.heap.size + 1, 0, none⟩ = false := hgx.frozen2 (v := .int .i64 x2) (by first | exact f36 | go_simp) (by (try dsimp only); omega) (by first | exact z36 | go_simp); have fr9 : wx.cell? ⟨w3.heap.size + 1, 1, none⟩ = some (.int .i64 y2) := hgx.cell2 (by first | exact f37 | go_simp) (by (try dsimp only); omega); have frz9 : wx.frozen? ⟨w3.heap.size + 1, 1, none⟩ = false := hgx.frozen2 (v := .int .i64 y2) (by first | exact f37 | go_simp) (by (try dsimp only); omega) (by first | exact z37 | go_simp); have hTx : Below w.heap.size w wx := Below.trans (Below.drew hT4) (hgx.to_below (by omega) (by (try simp only [World.size_alloc, World.size_drew, size_drewN, World.size_setCell]); omega)); have lsx := hSx.lt; have hZx := hTx.size))
    have n59 : ¬ w.heap.size = w3.heap.size := (by omega)
    have n60 : ¬ w.heap.size = w3.heap.size + 1 := (by omega)
    have n61 : ¬ w.heap.size + 1 = w3.heap.size := (by omega)
    have n62 : ¬ w.heap.size + 1 = w3.heap.size + 1 := (by omega)
    have n63 : ¬ w.heap.size = w3.heap.size := (by omega)
    have n64 : ¬ w.heap.size + 2 = w3.heap.size := (by omega)
    have n65 : ¬ w.heap.size + 2 = w3.heap.size + 1 := (by omega)
    have n66 : ¬ w.heap.size + 1 = w3.heap.size := (by omega)
    have n67 : ¬ w3.heap.size = w.heap.size := (by omega)
    have n68 : ¬ w3.heap.size = w.heap.size + 1 := (by omega)
    have n69 : ¬ w3.heap.size = w.heap.size + 2 := (by omega)
    have n70 : ¬ w3.heap.size + 1 = w.heap.size := (by omega)
    have n71 : ¬ w3.heap.size + 1 = w.heap.size + 1 := (by omega)
    have n72 : ¬ w3.heap.size = w.heap.size := (by omega)
    have n73 : ¬ w3.heap.size + 1 = w.heap.size + 2 := (by omega)
    have n74 : ¬ w3.heap.size = w.heap.size + 1 := (by omega)
    go_wp2
    refine bodyPost_ret (v := .tuple #[.agg #[.int .i64 x1, .int .i64 y1], .agg #[.int .i64 x2, .int .i64 y2], .agg #[.int .i64 x3, .int .i64 y3]]) (by simp [results, Try.results63, go_sem, fr0, fr1, fr2, fr3, fr4, fr5, fr6, fr7, fr8, fr9, frz0, frz1, frz2, frz3, frz4, frz5, frz6, frz7, frz8, frz9, n59, n60, n61, n62, n63, n64, n65, n66, n67, n68, n69, n70, n71, n72, n73, n74]) rfl ⟨x1, y1, x2, y2, x3, y3, rfl, (by repeat (first | with_reducible exact hTx | with_reducible exact Below.refl _ _ | with_reducible refine Below.alloc ?_ (by (try simp only [World.size_alloc, World.size_drew, size_drewN, World.size_setCell]); omega) _ | with_reducible refine Below.setCell ?_ (by (try dsimp only); omega) _ | with_reducible refine below_drewN ?_ _ | with_reducible refine Below.drew ?_))⟩
end Go.Proofs.Ytoccglmlpobeeaa
