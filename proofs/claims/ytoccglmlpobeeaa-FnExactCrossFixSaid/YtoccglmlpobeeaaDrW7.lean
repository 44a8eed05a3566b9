/- walks: what the laws draw (two lines) -/
import Derived.Test.YtoccglmlpobeeaaDrW6
set_option linter.unusedVariables false
set_option linter.unusedSimpArgs false
namespace Go.Proofs.Ytoccglmlpobeeaa
open Go.RowKit
def FixPost (w : World) (en : Ending) (w9 : World) : Prop := ∃ x1 y1 x2 y2 x3 y3 x4 y4 : Int, en = .returned (.tuple #[.agg #[.int .i64 x1, .int .i64 y1], .agg #[.int .i64 x2, .int .i64 y2], .agg #[.int .i64 x3, .int .i64 y3], .agg #[.int .i64 x4, .int .i64 y4]]) ∧ Below w.heap.size w w9
set_option maxHeartbeats 8000000 in
theorem dFix_any (A : Option Addr) (n c : Nat) (w : World) (hr : RdB w A n) (hm : n ≤ 4096) : Calls Try.prog 67 #[.slice A n c] w (FixPost w) := by
  go_enter Try.func67, Try.ntmps67
  go_wp2_with fail
  refine (from_any A n c _ (RdB.below hr (by repeat (first | with_reducible exact Below.refl _ _ | with_reducible exact Below.refl _ _ | with_reducible refine Below.alloc ?_ (by (try simp only [World.size_alloc, World.size_drew, size_drewN, World.size_setCell]); omega) _ | with_reducible refine Below.setCell ?_ (by (try dsimp only); omega) _ | with_reducible refine below_drewN ?_ _ | with_reducible refine Below.drew ?_))) hm).mono ?_
  rintro en w1 ⟨s, rfl, hs1, hS1, hb1⟩
  (try simp only [World.size_alloc, World.size_drew, size_drewN, World.size_setCell] at hs1)
  have hT1 : Below w.heap.size w w1 := Below.trans (by repeat (first | with_reducible exact Below.refl _ _ | with_reducible exact Below.refl _ _ | with_reducible refine Below.alloc ?_ (by (try simp only [World.size_alloc, World.size_drew, size_drewN, World.size_setCell]); omega) _ | with_reducible refine Below.setCell ?_ (by (try dsimp only); omega) _ | with_reducible refine below_drewN ?_ _ | with_reducible refine Below.drew ?_)) (hb1.mono (by (try simp only [World.size_alloc, World.size_drew, size_drewN, World.size_setCell]); omega))
  have f1 : w1.cell? ⟨w.heap.size, 0, none⟩ = some (.int .i64 0) := later hb1 (by first | go_simp | go_keep)
  have z1 : w1.frozen? ⟨w.heap.size, 0, none⟩ = false := laterF (v := .int .i64 0) hb1 (by first | go_simp | go_keep) (by first | go_simp | go_keep)
  have f2 : w1.cell? ⟨w.heap.size, 1, none⟩ = some (.int .i64 0) := later hb1 (by first | go_simp | go_keep)
  have z2 : w1.frozen? ⟨w.heap.size, 1, none⟩ = false := laterF (v := .int .i64 0) hb1 (by first | go_simp | go_keep) (by first | go_simp | go_keep)
  have f3 : w1.cell? ⟨w.heap.size + 1, 0, none⟩ = some (.int .i64 0) := later hb1 (by first | go_simp | go_keep)
  have z3 : w1.frozen? ⟨w.heap.size + 1, 0, none⟩ = false := laterF (v := .int .i64 0) hb1 (by first | go_simp | go_keep) (by first | go_simp | go_keep)
  have f4 : w1.cell? ⟨w.heap.size + 1, 1, none⟩ = some (.int .i64 0) := later hb1 (by first | go_simp | go_keep)
  have z4 : w1.frozen? ⟨w.heap.size + 1, 1, none⟩ = false := laterF (v := .int .i64 0) hb1 (by first | go_simp | go_keep) (by first | go_simp | go_keep)
  have f5 : w1.cell? ⟨w.heap.size + 2, 0, none⟩ = some (.int .i64 0) := later hb1 (by first | go_simp | go_keep)
  have z5 : w1.frozen? ⟨w.heap.size + 2, 0, none⟩ = false := laterF (v := .int .i64 0) hb1 (by first | go_simp | go_keep) (by first | go_simp | go_keep)
  have f6 : w1.cell? ⟨w.heap.size + 2, 1, none⟩ = some (.int .i64 0) := later hb1 (by first | go_simp | go_keep)
  have z6 : w1.frozen? ⟨w.heap.size + 2, 1, none⟩ = false := laterF (v := .int .i64 0) hb1 (by first | go_simp | go_keep) (by first | go_simp | go_keep)
  have f7 : w1.cell? ⟨w.heap.size + 3, 0, none⟩ = some (.int .i64 0) := later hb1 (by first | go_simp | go_keep)
  have z7 : w1.frozen? ⟨w.heap.size + 3, 0, none⟩ = false := laterF (v := .int .i64 0) hb1 (by first | go_simp | go_keep) (by first | go_simp | go_keep)
  have f8 : w1.cell? ⟨w.heap.size + 3, 1, none⟩ = some (.int .i64 0) := later hb1 (by first | go_simp | go_keep)
  have z8 : w1.frozen? ⟨w.heap.size + 3, 1, none⟩ = false := laterF (v := .int .i64 0) hb1 (by first | go_simp | go_keep) (by first | go_simp | go_keep)
  have l9 : w.heap.size < w1.heap.size := World.block_lt_of_cell? _ _ f1
  have l10 : w.heap.size + 1 < w1.heap.size := World.block_lt_of_cell? _ _ f3
  have l11 : w.heap.size + 2 < w1.heap.size := World.block_lt_of_cell? _ _ f5
  have l12 : w.heap.size + 3 < w1.heap.size := World.block_lt_of_cell? _ _ f7
  have hZ1 := hT1.size
  have ls1 := hS1.lt
  go_wp2_with fail
  refine (dPoint_any s _ _ _ (by repeat (first | with_reducible exact hS1 | with_reducible refine Src.alloc ?_ _ | with_reducible refine Src.set ?_ (by omega) (by omega) | with_reducible refine Src.drewN ?_ _ | with_reducible refine Src.drew ?_))).mono ?_
  rintro en w2 ⟨x1, y1, rfl, hS2, hg2⟩
  have hT2 : Below w.heap.size w w2 := Below.trans (by repeat (first | with_reducible exact hT1 | with_reducible exact Below.refl _ _ | with_reducible refine Below.alloc ?_ (by (try simp only [World.size_alloc, World.size_drew, size_drewN, World.size_setCell]); omega) _ | with_reducible refine Below.setCell ?_ (by (try dsimp only); omega) _ | with_reducible refine below_drewN ?_ _ | with_reducible refine Below.drew ?_)) (hg2.to_below (by omega) (by (try simp only [World.size_alloc, World.size_drew, size_drewN, World.size_setCell]); omega))
  have f13 : w2.cell? ⟨w.heap.size, 0, none⟩ = some (.int .i64 0) := hg2.cell2 (by first | (go_simp; done) | exact later (by repeat (first | exact Below.refl _ _ | refine Below.alloc ?_ (by (try simp only [World.size_alloc]); omega) _)) f1 | go_keep) (by (try dsimp only); omega)
  have z13 : w2.frozen? ⟨w.heap.size, 0, none⟩ = false := hg2.frozen2 (v := .int .i64 0) (by first | (go_simp; done) | exact later (by repeat (first | exact Below.refl _ _ | refine Below.alloc ?_ (by (try simp only [World.size_alloc]); omega) _)) f1 | go_keep) (by (try dsimp only); omega) (by first | (go_simp; done) | exact laterF (by repeat (first | exact Below.refl _ _ | refine Below.alloc ?_ (by (try simp only [World.size_alloc]); omega) _)) f1 z1 | go_keep)
  clear f1 z1
  have f14 : w2.cell? ⟨w.heap.size, 1, none⟩ = some (.int .i64 0) := hg2.cell2 (by first | (go_simp; done) | exact later (by repeat (first | exact Below.refl _ _ | refine Below.alloc ?_ (by (try simp only [World.size_alloc]); omega) _)) f2 | go_keep) (by (try dsimp only); omega)
  have z14 : w2.frozen? ⟨w.heap.size, 1, none⟩ = false := hg2.frozen2 (v := .int .i64 0) (by first | (go_simp; done) | exact later (by repeat (first | exact Below.refl _ _ | refine Below.alloc ?_ (by (try simp only [World.size_alloc]); omega) _)) f2 | go_keep) (by (try dsimp only); omega) (by first | (go_simp; done) | exact laterF (by repeat (first | exact Below.refl _ _ | refine Below.alloc ?_ (by (try simp only [World.size_alloc]); omega) _)) f2 z2 | go_keep)
  clear f2 z2
  have f15 : w2.cell? ⟨w.heap.size + 1, 0, none⟩ = some (.int .i64 0) := hg2.cell2 (by first | (go_simp; done) | exact later (by repeat (first | exact Below.refl _ _ | refine Below.alloc ?_ (by (try simp only [World.size_alloc]); omega) _)) f3 | go_keep) (by (try dsimp only); omega)
  have z15 : w2.frozen? ⟨w.heap.size + 1, 0, none⟩ = false := hg2.frozen2 (v := .int .i64 0) (by first | (go_simp; done) | exact later (by repeat (first | exact Below.refl _ _ | refine Below.alloc ?_ (by (try simp only [World.size_alloc]); omega) _)) f3 | go_keep) (by (try dsimp only); omega) (by first | (go_simp; done) | exact laterF (by repeat (first | exact Below.refl _ _ | refine Below.alloc ?_ (by (try simp only [World.size_alloc]); omega) _)) f3 z3 | go_keep)
  clear f3 z3
  have f16 : w2.cell? ⟨w.heap.size + 1, 1, none⟩ = some (.int .i64 0) := hg2.cell2 (by first | (go_simp; done) | exact later (by repeat (first | exact Below.refl _ _ | refine Below.alloc ?_ (by (try simp only [World.size_alloc]); omega) _)) f4 | go_keep) (by (try dsimp only); omega)
  have z16 : w2.frozen? ⟨w.heap.size + 1, 1, none⟩ = false := hg2.frozen2 (v := .int .i64 0) (by first | (go_simp; done) | exact later (by repeat (first | exact Below.refl _ _ | refine Below.alloc ?_ (by (try simp only [World.size_alloc]); omega) _)) f4 | go_keep) (by (try dsimp only); omega) (by first | (go_simp; done) | exact laterF (by repeat (first | exact Below.refl _ _ | refine Below.alloc ?_ (by (try simp only [World.size_alloc]); omega) _)) f4 z4 | go_keep)
  clear f4 z4
  have f17 : w2.cell? ⟨w.heap.size + 2, 0, none⟩ = some (.int .i64 0) := hg2.cell2 (by first | (go_simp; done) | exact later (by repeat (first | exact Below.refl _ _ | refine Below.alloc ?_ (by (try simp only [World.size_alloc]); omega) _)) f5 | go_keep) (by (try dsimp only); omega)
  have z17 : w2.frozen? ⟨w.heap.size + 2, 0, none⟩ = false := hg2.frozen2 (v := .int .i64 0) (by first | (go_simp; done) | exact later (by repeat (first | exact Below.refl _ _ | refine Below.alloc ?_ (by (try simp only [World.size_alloc]); omega) _)) f5 | go_keep) (by (try dsimp only); omega) (by first | (go_simp; done) | exact laterF (by repeat (first | exact Below.refl _ _ | refine Below.alloc ?_ (by (try simp only [World.size_alloc]); omega) _)) f5 z5 | go_keep)
  clear f5 z5
  have f18 : w2.cell? ⟨w.heap.size + 2, 1, none⟩ = some (.int .i64 0) := hg2.cell2 (by first | (go_simp; done) | exact later (by repeat (first | exact Below.refl _ _ | refine Below.alloc ?_ (by (try simp only [World.size_alloc]); omega) _)) f6 | go_keep) (by (try dsimp only); omega)
  have z18 : w2.frozen? ⟨w.heap.size + 2, 1, none⟩ = false := hg2.frozen2 (v := .int .i64 0) (by first | (go_simp; done) | exact later (by repeat (first | exact Below.refl _ _ | refine Below.alloc ?_ (by (try simp only [World.size_alloc]); omega) _)) f6 | go_keep) (by (try dsimp only); omega) (by first | (go_simp; done) | exact laterF (by repeat (first | exact Below.refl _ _ | refine Below.alloc ?_ (by (try simp only [World.size_alloc]); omega) _)) f6 z6 | go_keep)
  clear f6 z6
  have f19 : w2.cell? ⟨w.heap.size + 3, 0, none⟩ = some (.int .i64 0) := hg2.cell2 (by first | (go_simp; done) | exact later (by repeat (first | exact Below.refl _ _ | refine Below.alloc ?_ (by (try simp only [World.size_alloc]); omega) _)) f7 | go_keep) (by (try dsimp only); omega)
  have z19 : w2.frozen? ⟨w.heap.size + 3, 0, none⟩ = false := hg2.frozen2 (v := .int .i64 0) (by first | (go_simp; done) | exact later (by repeat (first | exact Below.refl _ _ | refine Below.alloc ?_ (by (try simp only [World.size_alloc]); omega) _)) f7 | go_keep) (by (try dsimp only); omega) (by first | (go_simp; done) | exact laterF (by repeat (first | exact Below.refl _ _ | refine Below.alloc ?_ (by (try simp only [World.size_alloc]); omega) _)) f7 z7 | go_keep)
  clear f7 z7
  have f20 : w2.cell? ⟨w.heap.size + 3, 1, none⟩ = some (.int .i64 0) := hg2.cell2 (by first | (go_simp; done) | exact later (by repeat (first | exact Below.refl _ _ | refine Below.alloc ?_ (by (try simp only [World.size_alloc]); omega) _)) f8 | go_keep) (by (try dsimp only); omega)
  have z20 : w2.frozen? ⟨w.heap.size + 3, 1, none⟩ = false := hg2.frozen2 (v := .int .i64 0) (by first | (go_simp; done) | exact later (by repeat (first | exact Below.refl _ _ | refine Below.alloc ?_ (by (try simp only [World.size_alloc]); omega) _)) f8 | go_keep) (by (try dsimp only); omega) (by first | (go_simp; done) | exact laterF (by repeat (first | exact Below.refl _ _ | refine Below.alloc ?_ (by (try simp only [World.size_alloc]); omega) _)) f8 z8 | go_keep)
  clear f8 z8
  have l21 : w.heap.size < w2.heap.size := World.block_lt_of_cell? _ _ f13
  have l22 : w.heap.size + 1 < w2.heap.size := World.block_lt_of_cell? _ _ f15
  have l23 : w.heap.size + 2 < w2.heap.size := World.block_lt_of_cell? _ _ f17
  have l24 : w.heap.size + 3 < w2.heap.size := World.block_lt_of_cell? _ _ f19
  have hZ2 := hT2.size
  have ls2 := hS2.lt
  go_wp2_with fail
  refine (dBear_any s _ (by repeat (first | with_reducible exact hS2 | with_reducible refine Src.alloc ?_ _ | with_reducible refine Src.set ?_ (by omega) (by omega) | with_reducible refine Src.drewN ?_ _ | with_reducible refine Src.drew ?_))).mono ?_
  rintro en w3 ⟨x2, y2, rfl, hS3, hg3⟩
  have hT3 : Below w.heap.size w w3 := Below.trans (by repeat (first | with_reducible exact hT2 | with_reducible exact Below.refl _ _ | with_reducible refine Below.alloc ?_ (by (try simp only [World.size_alloc, World.size_drew, size_drewN, World.size_setCell]); omega) _ | with_reducible refine Below.setCell ?_ (by (try dsimp only); omega) _ | with_reducible refine below_drewN ?_ _ | with_reducible refine Below.drew ?_)) (hg3.to_below (by omega) (by (try simp only [World.size_alloc, World.size_drew, size_drewN, World.size_setCell]); omega))
  have f25 : w3.cell? ⟨w.heap.size, 0, none⟩ = some (.int .i64 0) := hg3.cell2 (by first | (go_simp; done) | exact later (by repeat (first | exact Below.refl _ _ | refine Below.alloc ?_ (by (try simp only [World.size_alloc]); omega) _)) f13 | go_keep) (by (try dsimp only); omega)
  have z25 : w3.frozen? ⟨w.heap.size, 0, none⟩ = false := hg3.frozen2 (v := .int .i64 0) (by first | (go_simp; done) | exact later (by repeat (first | exact Below.refl _ _ | refine Below.alloc ?_ (by (try simp only [World.size_alloc]); omega) _)) f13 | go_keep) (by (try dsimp only); omega) (by first | (go_simp; done) | exact laterF (by repeat (first | exact Below.refl _ _ | refine Below.alloc ?_ (by (try simp only [World.size_alloc]); omega) _)) f13 z13 | go_keep)
  clear f13 z13
  have f26 : w3.cell? ⟨w.heap.size, 1, none⟩ = some (.int .i64 0) := hg3.cell2 (by first | (go_simp; done) | exact later (by repeat (first | exact Below.refl _ _ | refine Below.alloc ?_ (by (try simp only [World.size_alloc]); omega) _)) f14 | go_keep) (by (try dsimp only); omega)
  have z26 : w3.frozen? ⟨w.heap.size, 1, none⟩ = false := hg3.frozen2 (v := .int .i64 0) (by first | (go_simp; done) | exact later (by repeat (first | exact Below.refl _ _ | refine Below.alloc ?_ (by (try simp only [World.size_alloc]); omega) _)) f14 | go_keep) (by (try dsimp only); omega) (by first | (go_simp; done) | exact laterF (by repeat (first | exact Below.refl _ _ | refine Below.alloc ?_ (by (try simp only [World.size_alloc]); omega) _)) f14 z14 | go_keep)
  clear f14 z14
  have f27 : w3.cell? ⟨w.heap.size + 1, 0, none⟩ = some (.int .i64 0) := hg3.cell2 (by first | (go_simp; done) | exact later (by repeat (first | exact Below.refl _ _ | refine Below.alloc ?_ (by (try simp only [World.size_alloc]); omega) _)) f15 | go_keep) (by (try dsimp only); omega)
  have z27 : w3.frozen? ⟨w.heap.size + 1, 0, none⟩ = false := hg3.frozen2 (v := .int .i64 0) (by first | (go_simp; done) | exact later (by repeat (first | exact Below.refl _ _ | refine Below.alloc ?_ (by (try simp only [World.size_alloc]); omega) _)) f15 | go_keep) (by (try dsimp only); omega) (by first | (go_simp; done) | exact laterF (by repeat (first | exact Below.refl _ _ | refine Below.alloc ?_ (by (try simp only [World.size_alloc]); omega) _)) f15 z15 | go_keep)
  clear f15 z15
  have f28 : w3.cell? ⟨w.heap.size + 1, 1, none⟩ = some (.int .i64 0) := hg3.cell2 (by first | (go_simp; done) | exact later (by repeat (first | exact Below.refl _ _ | refine Below.alloc ?_ (by (try simp only [World.size_alloc]); omega) _)) f16 | go_keep) (by (try dsimp only); omega)
  have z28 : w3.frozen? ⟨w.heap.size + 1, 1, none⟩ = false := hg3.frozen2 (v := .int .i64 0) (by first | (go_simp; done) | exact later (by repeat (first | exact Below.refl _ _ | refine Below.alloc ?_ (by (try simp only [World.size_alloc]); omega) _)) f16 | go_keep) (by (try dsimp only); omega) (by first | (go_simp; done) | exact laterF (by repeat (first | exact Below.refl _ _ | refine Below.alloc ?_ (by (try simp only [World.size_alloc]); omega) _)) f16 z16 | go_keep)
  clear f16 z16
  have f29 : w3.cell? ⟨w.heap.size + 2, 0, none⟩ = some (.int .i64 0) := hg3.cell2 (by first | (go_simp; done) | exact later (by repeat (first | exact Below.refl _ _ | refine Below.alloc ?_ (by (try simp only [World.size_alloc]); omega) _)) f17 | go_keep) (by (try dsimp only); omega)
  have z29 : w3.frozen? ⟨w.heap.size + 2, 0, none⟩ = false := hg3.frozen2 (v := .int .i64 0) (by first | (go_simp; done) | exact later (by repeat (first | exact Below.refl _ _ | refine Below.alloc ?_ (by (try simp only [World.size_alloc]); omega) _)) f17 | go_keep) (by (try dsimp only); omega) (by first | (go_simp; done) | exact laterF (by repeat (first | exact Below.refl _ _ | refine Below.alloc ?_ (by (try simp only [World.size_alloc]); omega) _)) f17 z17 | go_keep)
  clear f17 z17
  have f30 : w3.cell? ⟨w.heap.size + 2, 1, none⟩ = some (.int .i64 0) := hg3.cell2 (by first | (go_simp; done) | exact later (by repeat (first | exact Below.refl _ _ | refine Below.alloc ?_ (by (try simp only [World.size_alloc]); omega) _)) f18 | go_keep) (by (try dsimp only); omega)
  have z30 : w3.frozen? ⟨w.heap.size + 2, 1, none⟩ = false := hg3.frozen2 (v := .int .i64 0) (by first | (go_simp; done) | exact later (by repeat (first | exact Below.refl _ _ | refine Below.alloc ?_ (by (try simp only [World.size_alloc]); omega) _)) f18 | go_keep) (by (try dsimp only); omega) (by first | (go_simp; done) | exact laterF (by repeat (first | exact Below.refl _ _ | refine Below.alloc ?_ (by (try simp only [World.size_alloc]); omega) _)) f18 z18 | go_keep)
  clear f18 z18
  have f31 : w3.cell? ⟨w.heap.size + 3, 0, none⟩ = some (.int .i64 0) := hg3.cell2 (by first | (go_simp; done) | exact later (by repeat (first | exact Below.refl _ _ | refine Below.alloc ?_ (by (try simp only [World.size_alloc]); omega) _)) f19 | go_keep) (by (try dsimp only); omega)
  have z31 : w3.frozen? ⟨w.heap.size + 3, 0, none⟩ = false := hg3.frozen2 (v := .int .i64 0) (by first | (go_simp; done) | exact later (by repeat (first | exact Below.refl _ _ | refine Below.alloc ?_ (by (try simp only [World.size_alloc]); omega) _)) f19 | go_keep) (by (try dsimp only); omega) (by first | (go_simp; done) | exact laterF (by repeat (first | exact Below.refl _ _ | refine Below.alloc ?_ (by (try simp only [World.size_alloc]); omega) _)) f19 z19 | go_keep)
  clear f19 z19
  have f32 : w3.cell? ⟨w.heap.size + 3, 1, none⟩ = some (.int .i64 0) := hg3.cell2 (by first | (go_simp; done) | exact later (by repeat (first | exact Below.refl _ _ | refine Below.alloc ?_ (by (try simp only [World.size_alloc]); omega) _)) f20 | go_keep) (by (try dsimp only); omega)
  have z32 : w3.frozen? ⟨w.heap.size + 3, 1, none⟩ = false := hg3.frozen2 (v := .int .i64 0) (by first | (go_simp; done) | exact later (by repeat (first | exact Below.refl _ _ | refine Below.alloc ?_ (by (try simp only [World.size_alloc]); omega) _)) f20 | go_keep) (by (try dsimp only); omega) (by first | (go_simp; done) | exact laterF (by repeat (first | exact Below.refl _ _ | refine Below.alloc ?_ (by (try simp only [World.size_alloc]); omega) _)) f20 z20 | go_keep)
  clear f20 z20
  have l33 : w.heap.size < w3.heap.size := World.block_lt_of_cell? _ _ f25
  have l34 : w.heap.size + 1 < w3.heap.size := World.block_lt_of_cell? _ _ f27
  have l35 : w.heap.size + 2 < w3.heap.size := World.block_lt_of_cell? _ _ f29
  have l36 : w.heap.size + 3 < w3.heap.size := World.block_lt_of_cell? _ _ f31
  have hZ3 := hT3.size
  have ls3 := hS3.lt
  go_wp2_with fail
  refine (dPoint_any s _ _ _ (by repeat (first | with_reducible exact hS3 | with_reducible refine Src.alloc ?_ _ | with_reducible refine Src.set ?_ (by omega) (by omega) | with_reducible refine Src.drewN ?_ _ | with_reducible refine Src.drew ?_))).mono ?_
  rintro en w4 ⟨x3, y3, rfl, hS4, hg4⟩
  have hT4 : Below w.heap.size w w4 := Below.trans (by repeat (first | with_reducible exact hT3 | with_reducible exact Below.refl _ _ | with_reducible refine Below.alloc ?_ (by (try simp only [World.size_alloc, World.size_drew, size_drewN, World.size_setCell]); omega) _ | with_reducible refine Below.setCell ?_ (by (try dsimp only); omega) _ | with_reducible refine below_drewN ?_ _ | with_reducible refine Below.drew ?_)) (hg4.to_below (by omega) (by (try simp only [World.size_alloc, World.size_drew, size_drewN, World.size_setCell]); omega))
  have f37 : w4.cell? ⟨w.heap.size, 0, none⟩ = some (.int .i64 0) := hg4.cell2 (by first | (go_simp; done) | exact later (by repeat (first | exact Below.refl _ _ | refine Below.alloc ?_ (by (try simp only [World.size_alloc]); omega) _)) f25 | go_keep) (by (try dsimp only); omega)
  have z37 : w4.frozen? ⟨w.heap.size, 0, none⟩ = false := hg4.frozen2 (v := .int .i64 0) (by first | (go_simp; done) | exact later (by repeat (first | exact Below.refl _ _ | refine Below.alloc ?_ (by (try simp only [World.size_alloc]); omega) _)) f25 | go_keep) (by (try dsimp only); omega) (by first | (go_simp; done) | exact laterF (by repeat (first | exact Below.refl _ _ | refine Below.alloc ?_ (by (try simp only [World.size_alloc]); omega) _)) f25 z25 | go_keep)
  clear f25 z25
  have f38 : w4.cell? ⟨w.heap.size, 1, none⟩ = some (.int .i64 0) := hg4.cell2 (by first | (go_simp; done) | exact later (by repeat (first | exact Below.refl _ _ | refine Below.alloc ?_ (by (try simp only [World.size_alloc]); omega) _)) f26 | go_keep) (by (try dsimp only); omega)
  have z38 : w4.frozen? ⟨w.heap.size, 1, none⟩ = false := hg4.frozen2 (v := .int .i64 0) (by first | (go_simp; done) | exact later (by repeat (first | exact Below.refl _ _ | refine Below.alloc ?_ (by (try simp only [World.size_alloc]); omega) _)) f26 | go_keep) (by (try dsimp only); omega) (by first | (go_simp; done) | exact laterF (by repeat (first | exact Below.refl _ _ | refine Below.alloc ?_ (by (try simp only [World.size_alloc]); omega) _)) f26 z26 | go_keep)
  clear f26 z26
  have f39 : w4.cell? ⟨w.heap.size + 1, 0, none⟩ = some (.int .i64 0) := hg4.cell2 (by first | (go_simp; done) | exact later (by repeat (first | exact Below.refl _ _ | refine Below.alloc ?_ (by (try simp only [World.size_alloc]); omega) _)) f27 | go_keep) (by (try dsimp only); omega)
  have z39 : w4.frozen? ⟨w.heap.size + 1, 0, none⟩ = false := hg4.frozen2 (v := .int .i64 0) (by first | (go_simp; done) | exact later (by repeat (first | exact Below.refl _ _ | refine Below.alloc ?_ (by (try simp only [World.size_alloc]); omega) _)) f27 | go_keep) (by (try dsimp only); omega) (by first | (go_simp; done) | exact laterF (by repeat (first | exact Below.refl _ _ | refine Below.alloc ?_ (by (try simp only [World.size_alloc]); omega) _)) f27 z27 | go_keep)
  clear f27 z27
  have f40 : w4.cell? ⟨w.heap.size + 1, 1, none⟩ = some (.int .i64 0) := hg4.cell2 (by first | (go_simp; done) | exact later (by repeat (first | exact Below.refl _ _ | refine Below.alloc ?_ (by (try simp only [World.size_alloc]); omega) _)) f28 | go_keep) (by (try dsimp only); omega)
  have z40 : w4.frozen? ⟨w.heap.size + 1, 1, none⟩ = false := hg4.frozen2 (v := .int .i64 0) (by first | (go_simp; done) | exact later (by repeat (first | exact Below.refl _ _ | refine Below.alloc ?_ (by (try simp only [World.size_alloc]); omega) _)) f28 | go_keep) (by (try dsimp only); omega) (by first | (go_simp; done) | exact laterF (by repeat (first | exact Below.refl _ _ | refine Below.alloc ?_ (by (try simp only [World.size_alloc]); omega) _)) f28 z28 | go_keep)
  clear f28 z28
  have f41 : w4.cell? ⟨w.heap.size + 2, 0, none⟩ = some (.int .i64 0) := hg4.cell2 (by first | (go_simp; done) | exact later (by repeat (first | exact Below.refl _ _ | refine Below.alloc ?_ (by (try simp only [World.size_alloc]); omega) _)) f29 | go_keep) (by (try dsimp only); omega)
  have z41 : w4.frozen? ⟨w.heap.size + 2, 0, none⟩ = false := hg4.frozen2 (v := .int .i64 0) (by first | (go_simp; done) | exact later (by repeat (first | exact Below.refl _ _ | refine Below.alloc ?_ (by (try simp only [World.size_alloc]); omega) _)) f29 | go_keep) (by (try dsimp only); omega) (by first | (go_simp; done) | exact laterF (by repeat (first | exact Below.refl _ _ | refine Below.alloc ?_ (by (try simp only [World.size_alloc]); omega) _)) f29 z29 | go_keep)
  clear f29 z29
  have f42 : w4.cell? ⟨w.heap.size + 2, 1, none⟩ = some (.int .i64 0) := hg4.cell2 (by first | (go_simp; done) | exact later (by repeat (first | exact Below.refl _ _ | refine Below.alloc ?_ (by (try simp only [World.size_alloc]); omega) _)) f30 | go_keep) (by (try dsimp only); omega)
  have z42 : w4.frozen? ⟨w.heap.size + 2, 1, none⟩ = false := hg4.frozen2 (v := .int .i64 0) (by first | (go_simp; done) | exact later (by repeat (first | exact Below.refl _ _ | refine Below.alloc ?_ (by (try simp only [World.size_alloc]); omega) _)) f30 | go_keep) (by (try dsimp only); omega) (by first | (go_simp; done) | exact laterF (by repeat (first | exact Below.refl _ _ | refine Below.alloc ?_ (by (try simp only [World.size_alloc]); omega) _)) f30 z30 | go_keep)
  clear f30 z30
  have f43 : w4.cell? ⟨w.heap.size + 3, 0, none⟩ = some (.int .i64 0) := hg4.cell2 (by first | (go_simp; done) | exact later (by repeat (first | exact Below.refl _ _ | refine Below.alloc ?_ (by (try simp only [World.size_alloc]); omega) _)) f31 | go_keep) (by (try dsimp only); omega)
  have z43 : w4.frozen? ⟨w.heap.size + 3, 0, none⟩ = false := hg4.frozen2 (v := .int .i64 0) (by first | (go_simp; done) | exact later (by repeat (first | exact Below.refl _ _ | refine Below.alloc ?_ (by (try simp only [World.size_alloc]); omega) _)) f31 | go_keep) (by (try dsimp only); omega) (by first | (go_simp; done) | exact laterF (by repeat (first | exact Below.refl _ _ | refine Below.alloc ?_ (by (try simp only [World.size_alloc]); omega) _)) f31 z31 | go_keep)
  clear f31 z31
  have f44 : w4.cell? ⟨w.heap.size + 3, 1, none⟩ = some (.int .i64 0) := hg4.cell2 (by first | (go_simp; done) | exact later (by repeat (first | exact Below.refl _ _ | refine Below.alloc ?_ (by (try simp only [World.size_alloc]); omega) _)) f32 | go_keep) (by (try dsimp only); omega)
  have z44 : w4.frozen? ⟨w.heap.size + 3, 1, none⟩ = false := hg4.frozen2 (v := .int .i64 0) (by first | (go_simp; done) | exact later (by repeat (first | exact Below.refl _ _ | refine Below.alloc ?_ (by (try simp only [World.size_alloc]); omega) _)) f32 | go_keep) (by (try dsimp only); omega) (by first | (go_simp; done) | exact laterF (by repeat (first | exact Below.refl _ _ | refine Below.alloc ?_ (by (try simp only [World.size_alloc]); omega) _)) f32 z32 | go_keep)
  clear f32 z32
  have l45 : w.heap.size < w4.heap.size := World.block_lt_of_cell? _ _ f37
  have l46 : w.heap.size + 1 < w4.heap.size := World.block_lt_of_cell? _ _ f39
  have l47 : w.heap.size + 2 < w4.heap.size := World.block_lt_of_cell? _ _ f41
  have l48 : w.heap.size + 3 < w4.heap.size := World.block_lt_of_cell? _ _ f43
  have hZ4 := hT4.size
  have ls4 := hS4.lt
  go_wp2_with fail
  refine (next_any s _ _ (by repeat (first | with_reducible exact hS4 | with_reducible refine Src.alloc ?_ _ | with_reducible refine Src.set ?_ (by omega) (by omega) | with_reducible refine Src.drewN ?_ _ | with_reducible refine Src.drew ?_))).mono ?_
  rintro en w5 ⟨e, rfl, a1, b1, hS5, hg5⟩
  have hT5 : Below w.heap.size w w5 := Below.trans (by repeat (first | with_reducible exact hT4 | with_reducible exact Below.refl _ _ | with_reducible refine Below.alloc ?_ (by (try simp only [World.size_alloc, World.size_drew, size_drewN, World.size_setCell]); omega) _ | with_reducible refine Below.setCell ?_ (by (try dsimp only); omega) _ | with_reducible refine below_drewN ?_ _ | with_reducible refine Below.drew ?_)) (hg5.to_below (by omega) (by (try simp only [World.size_alloc, World.size_drew, size_drewN, World.size_setCell]); omega))
  have f49 : w5.cell? ⟨w.heap.size, 0, none⟩ = some (.int .i64 0) := hg5.cell2 (by first | (go_simp; done) | exact later (by repeat (first | exact Below.refl _ _ | refine Below.alloc ?_ (by (try simp only [World.size_alloc]); omega) _)) f37 | go_keep) (by (try dsimp only); omega)
  have z49 : w5.frozen? ⟨w.heap.size, 0, none⟩ = false := hg5.frozen2 (v := .int .i64 0) (by first | (go_simp; done) | exact later (by repeat (first | exact Below.refl _ _ | refine Below.alloc ?_ (by (try simp only [World.size_alloc]); omega) _)) f37 | go_keep) (by (try dsimp only); omega) (by first | (go_simp; done) | exact laterF (by repeat (first | exact Below.refl _ _ | refine Below.alloc ?_ (by (try simp only [World.size_alloc]); omega) _)) f37 z37 | go_keep)
  clear f37 z37
  have f50 : w5.cell? ⟨w.heap.size, 1, none⟩ = some (.int .i64 0) := hg5.cell2 (by first | (go_simp; done) | exact later (by repeat (first | exact Below.refl _ _ | refine Below.alloc ?_ (by (try simp only [World.size_alloc]); omega) _)) f38 | go_keep) (by (try dsimp only); omega)
  have z50 : w5.frozen? ⟨w.heap.size, 1, none⟩ = false := hg5.frozen2 (v := .int .i64 0) (by first | (go_simp; done) | exact later (by repeat (first | exact Below.refl _ _ | refine Below.alloc ?_ (by (try simp only [World.size_alloc]); omega) _)) f38 | go_keep) (by (try dsimp only); omega) (by first | (go_simp; done) | exact laterF (by repeat (first | exact Below.refl _ _ | refine Below.alloc ?_ (by (try simp only [World.size_alloc]); omega) _)) f38 z38 | go_keep)
  clear f38 z38
  have f51 : w5.cell? ⟨w.heap.size + 1, 0, none⟩ = some (.int .i64 0) := hg5.cell2 (by first | (go_simp; done) | exact later (by repeat (first | exact Below.refl _ _ | refine Below.alloc ?_ (by (try simp only [World.size_alloc]); omega) _)) f39 | go_keep) (by (try dsimp only); omega)
  have z51 : w5.frozen? ⟨w.heap.size + 1, 0, none⟩ = false := hg5.frozen2 (v := .int .i64 0) (by first | (go_simp; done) | exact later (by repeat (first | exact Below.refl _ _ | refine Below.alloc ?_ (by (try simp only [World.size_alloc]); omega) _)) f39 | go_keep) (by (try dsimp only); omega) (by first | (go_simp; done) | exact laterF (by repeat (first | exact Below.refl _ _ | refine Below.alloc ?_ (by (try simp only [World.size_alloc]); omega) _)) f39 z39 | go_keep)
  clear f39 z39
  have f52 : w5.cell? ⟨w.heap.size + 1, 1, none⟩ = some (.int .i64 0) := hg5.cell2 (by first | (go_simp; done) | exact later (by repeat (first | exact Below.refl _ _ | refine Below.alloc ?_ (by (try simp only [World.size_alloc]); omega) _)) f40 | go_keep) (by (try dsimp only); omega)
  have z52 : w5.frozen? ⟨w.heap.size + 1, 1, none⟩ = false := hg5.frozen2 (v := .int .i64 0) (by first | (go_simp; done) | exact later (by repeat (first | exact Below.refl _ _ | refine Below.alloc ?_ (by (try simp only [World.size_alloc]); omega) _)) f40 | go_keep) (by (try dsimp only); omega) (by first | (go_simp; done) | exact laterF (by repeat (first | exact Below.refl _ _ | refine Below.alloc ?_ (by (try simp only [World.size_alloc]); omega) _)) f40 z40 | go_keep)
  clear f40 z40
  have f53 : w5.cell? ⟨w.heap.size + 2, 0, none⟩ = some (.int .i64 0) := hg5.cell2 (by first | (go_simp; done) | exact later (by repeat (first | exact Below.refl _ _ | refine Below.alloc ?_ (by (try simp only [World.size_alloc]); omega) _)) f41 | go_keep) (by (try dsimp only); omega)
  have z53 : w5.frozen? ⟨w.heap.size + 2, 0, none⟩ = false := hg5.frozen2 (v := .int .i64 0) (by first | (go_simp; done) | exact later (by repeat (first | exact Below.refl _ _ | refine Below.alloc ?_ (by (try simp only [World.size_alloc]); omega) _)) f41 | go_keep) (by (try dsimp only); omega) (by first | (go_simp; done) | exact laterF (by repeat (first | exact Below.refl _ _ | refine Below.alloc ?_ (by (try simp only [World.size_alloc]); omega) _)) f41 z41 | go_keep)
  clear f41 z41
  have f54 : w5.cell? ⟨w.heap.size + 2, 1, none⟩ = some (.int .i64 0) := hg5.cell2 (by first | (go_simp; done) | exact later (by repeat (first | exact Below.refl _ _ | refine Below.alloc ?_ (by (try simp only [World.size_alloc]); omega) _)) f42 | go_keep) (by (try dsimp only); omega)
  have z54 : w5.frozen? ⟨w.heap.size + 2, 1, none⟩ = false := hg5.frozen2 (v := .int .i64 0) (by first | (go_simp; done) | exact later (by repeat (first | exact Below.refl _ _ | refine Below.alloc ?_ (by (try simp only [World.size_alloc]); omega) _)) f42 | go_keep) (by (try dsimp only); omega) (by first | (go_simp; done) | exact laterF (by repeat (first | exact Below.refl _ _ | refine Below.alloc ?_ (by (try simp only [World.size_alloc]); omega) _)) f42 z42 | go_keep)
  clear f42 z42
  have f55 : w5.cell? ⟨w.heap.size + 3, 0, none⟩ = some (.int .i64 0) := hg5.cell2 (by first | (go_simp; done) | exact later (by repeat (first | exact Below.refl _ _ | refine Below.alloc ?_ (by (try simp only [World.size_alloc]); omega) _)) f43 | go_keep) (by (try dsimp only); omega)
  have z55 : w5.frozen? ⟨w.heap.size + 3, 0, none⟩ = false := hg5.frozen2 (v := .int .i64 0) (by first | (go_simp; done) | exact later (by repeat (first | exact Below.refl _ _ | refine Below.alloc ?_ (by (try simp only [World.size_alloc]); omega) _)) f43 | go_keep) (by (try dsimp only); omega) (by first | (go_simp; done) | exact laterF (by repeat (first | exact Below.refl _ _ | refine Below.alloc ?_ (by (try simp only [World.size_alloc]); omega) _)) f43 z43 | go_keep)
  clear f43 z43
  have f56 : w5.cell? ⟨w.heap.size + 3, 1, none⟩ = some (.int .i64 0) := hg5.cell2 (by first | (go_simp; done) | exact later (by repeat (first | exact Below.refl _ _ | refine Below.alloc ?_ (by (try simp only [World.size_alloc]); omega) _)) f44 | go_keep) (by (try dsimp only); omega)
  have z56 : w5.frozen? ⟨w.heap.size + 3, 1, none⟩ = false := hg5.frozen2 (v := .int .i64 0) (by first | (go_simp; done) | exact later (by repeat (first | exact Below.refl _ _ | refine Below.alloc ?_ (by (try simp only [World.size_alloc]); omega) _)) f44 | go_keep) (by (try dsimp only); omega) (by first | (go_simp; done) | exact laterF (by repeat (first | exact Below.refl _ _ | refine Below.alloc ?_ (by (try simp only [World.size_alloc]); omega) _)) f44 z44 | go_keep)
  clear f44 z44
  have f57 : w5.cell? ⟨w4.heap.size, 0, none⟩ = some (.int .i64 x1) := hg5.cell2 (by first | (go_simp; done) | go_keep) (by (try dsimp only); omega)
  have z57 : w5.frozen? ⟨w4.heap.size, 0, none⟩ = false := hg5.frozen2 (v := .int .i64 x1) (by first | (go_simp; done) | go_keep) (by (try dsimp only); omega) (by first | (go_simp; done) | go_keep)
  have f58 : w5.cell? ⟨w4.heap.size, 1, none⟩ = some (.int .i64 y1) := hg5.cell2 (by first | (go_simp; done) | go_keep) (by (try dsimp only); omega)
  have z58 : w5.frozen? ⟨w4.heap.size, 1, none⟩ = false := hg5.frozen2 (v := .int .i64 y1) (by first | (go_simp; done) | go_keep) (by (try dsimp only); omega) (by first | (go_simp; done) | go_keep)
  have f59 : w5.cell? ⟨w4.heap.size + 1, 0, none⟩ = some (.int .i64 x2) := hg5.cell2 (by first | (go_simp; done) | go_keep) (by (try dsimp only); omega)
  have z59 : w5.frozen? ⟨w4.heap.size + 1, 0, none⟩ = false := hg5.frozen2 (v := .int .i64 x2) (by first | (go_simp; done) | go_keep) (by (try dsimp only); omega) (by first | (go_simp; done) | go_keep)
  have f60 : w5.cell? ⟨w4.heap.size + 1, 1, none⟩ = some (.int .i64 y2) := hg5.cell2 (by first | (go_simp; done) | go_keep) (by (try dsimp only); omega)
  have z60 : w5.frozen? ⟨w4.heap.size + 1, 1, none⟩ = false := hg5.frozen2 (v := .int .i64 y2) (by first | (go_simp; done) | go_keep) (by (try dsimp only); omega) (by first | (go_simp; done) | go_keep)
  have f61 : w5.cell? ⟨w4.heap.size + 2, 0, none⟩ = some (.int .i64 x3) := hg5.cell2 (by first | (go_simp; done) | go_keep) (by (try dsimp only); omega)
  have z61 : w5.frozen? ⟨w4.heap.size + 2, 0, none⟩ = false := hg5.frozen2 (v := .int .i64 x3) (by first | (go_simp; done) | go_keep) (by (try dsimp only); omega) (by first | (go_simp; done) | go_keep)
  have f62 : w5.cell? ⟨w4.heap.size + 2, 1, none⟩ = some (.int .i64 y3) := hg5.cell2 (by first | (go_simp; done) | go_keep) (by (try dsimp only); omega)
  have z62 : w5.frozen? ⟨w4.heap.size + 2, 1, none⟩ = false := hg5.frozen2 (v := .int .i64 y3) (by first | (go_simp; done) | go_keep) (by (try dsimp only); omega) (by first | (go_simp; done) | go_keep)
  have l63 : w.heap.size < w5.heap.size := World.block_lt_of_cell? _ _ f49
  have l64 : w.heap.size + 1 < w5.heap.size := World.block_lt_of_cell? _ _ f51
  have l65 : w.heap.size + 2 < w5.heap.size := World.block_lt_of_cell? _ _ f53
  have l66 : w.heap.size + 3 < w5.heap.size := World.block_lt_of_cell? _ _ f55
  have l67 : w4.heap.size < w5.heap.size := World.block_lt_of_cell? _ _ f57
  have l68 : w4.heap.size + 1 < w5.heap.size := World.block_lt_of_cell? _ _ f59
  have l69 : w4.heap.size + 2 < w5.heap.size := World.block_lt_of_cell? _ _ f61
  have hZ5 := hT5.size
  have ls5 := hS5.lt
  clear a1 b1
  by_cases e0 : e = 0
  · have e1 : (e == 0) = true := by simpa using e0
    clear e0
    go_wp2_with fail
    refine (next_any s _ _ (by repeat (first | with_reducible exact hS5 | with_reducible refine Src.alloc ?_ _ | with_reducible refine Src.set ?_ (by omega) (by omega) | with_reducible refine Src.drewN ?_ _ | with_reducible refine Src.drew ?_))).mono ?_
    rintro en w6 ⟨k, rfl, a1, b1, hS6, hg6⟩
    have hT6 : Below w.heap.size w w6 := Below.trans (by repeat (first | with_reducible exact hT5 | with_reducible exact Below.refl _ _ | with_reducible refine Below.alloc ?_ (by (try simp only [World.size_alloc, World.size_drew, size_drewN, World.size_setCell]); omega) _ | with_reducible refine Below.setCell ?_ (by (try dsimp only); omega) _ | with_reducible refine below_drewN ?_ _ | with_reducible refine Below.drew ?_)) (hg6.to_below (by omega) (by (try simp only [World.size_alloc, World.size_drew, size_drewN, World.size_setCell]); omega))
    have f70 : w6.cell? ⟨w.heap.size, 0, none⟩ = some (.int .i64 0) := hg6.cell2 (by first | (go_simp; done) | exact later (by repeat (first | exact Below.refl _ _ | refine Below.alloc ?_ (by (try simp only [World.size_alloc]); omega) _)) f49 | go_keep) (by (try dsimp only); omega)
    have z70 : w6.frozen? ⟨w.heap.size, 0, none⟩ = false := hg6.frozen2 (v := .int .i64 0) (by first | (go_simp; done) | exact later (by repeat (first | exact Below.refl _ _ | refine Below.alloc ?_ (by (try simp only [World.size_alloc]); omega) _)) f49 | go_keep) (by (try dsimp only); omega) (by first | (go_simp; done) | exact laterF (by repeat (first | exact Below.refl _ _ | refine Below.alloc ?_ (by (try simp only [World.size_alloc]); omega) _)) f49 z49 | go_keep)
    clear f49 z49
    have f71 : w6.cell? ⟨w.heap.size, 1, none⟩ = some (.int .i64 0) := hg6.cell2 (by first | (go_simp; done) | exact later (by repeat (first | exact Below.refl _ _ | refine Below.alloc ?_ (by (try simp only [World.size_alloc]); omega) _)) f50 | go_keep) (by (try dsimp only); omega)
    have z71 : w6.frozen? ⟨w.heap.size, 1, none⟩ = false := hg6.frozen2 (v := .int .i64 0) (by first | (go_simp; done) | exact later (by repeat (first | exact Below.refl _ _ | refine Below.alloc ?_ (by (try simp only [World.size_alloc]); omega) _)) f50 | go_keep) (by (try dsimp only); omega) (by first | (go_simp; done) | exact laterF (by repeat (first | exact Below.refl _ _ | refine Below.alloc ?_ (by (try simp only [World.size_alloc]); omega) _)) f50 z50 | go_keep)
    clear f50 z50
    have f72 : w6.cell? ⟨w.heap.size + 1, 0, none⟩ = some (.int .i64 0) := hg6.cell2 (by first | (go_simp; done) | exact later (by repeat (first | exact Below.refl _ _ | refine Below.alloc ?_ (by (try simp only [World.size_alloc]); omega) _)) f51 | go_keep) (by (try dsimp only); omega)
    have z72 : w6.frozen? ⟨w.heap.size + 1, 0, none⟩ = false := hg6.frozen2 (v := .int .i64 0) (by first | (go_simp; done) | exact later (by repeat (first | exact Below.refl _ _ | refine Below.alloc ?_ (by (try simp only [World.size_alloc]); omega) _)) f51 | go_keep) (by (try dsimp only); omega) (by first | (go_simp; done) | exact laterF (by repeat (first | exact Below.refl _ _ | refine Below.alloc ?_ (by (try simp only [World.size_alloc]); omega) _)) f51 z51 | go_keep)
    clear f51 z51
    have f73 : w6.cell? ⟨w.heap.size + 1, 1, none⟩ = some (.int .i64 0) := hg6.cell2 (by first | (go_simp; done) | exact later (by repeat (first | exact Below.refl _ _ | refine Below.alloc ?_ (by (try simp only [World.size_alloc]); omega) _)) f52 | go_keep) (by (try dsimp only); omega)
    have z73 : w6.frozen? ⟨w.heap.size + 1, 1, none⟩ = false := hg6.frozen2 (v := .int .i64 0) (by first | (go_simp; done) | exact later (by repeat (first | exact Below.refl _ _ | refine Below.alloc ?_ (by (try simp only [World.size_alloc]); omega) _)) f52 | go_keep) (by (try dsimp only); omega) (by first | (go_simp; done) | exact laterF (by repeat (first | exact Below.refl _ _ | refine Below.alloc ?_ (by (try simp only [World.size_alloc]); omega) _)) f52 z52 | go_keep)
    clear f52 z52
    have f74 : w6.cell? ⟨w.heap.size + 2, 0, none⟩ = some (.int .i64 0) := hg6.cell2 (by first | (go_simp; done) | exact later (by repeat (first | exact Below.refl _ _ | refine Below.alloc ?_ (by (try simp only [World.size_alloc]); omega) _)) f53 | go_keep) (by (try dsimp only); omega)
    have z74 : w6.frozen? ⟨w.heap.size + 2, 0, none⟩ = false := hg6.frozen2 (v := .int .i64 0) (by first | (go_simp; done) | exact later (by repeat (first | exact Below.refl _ _ | refine Below.alloc ?_ (by (try simp only [World.size_alloc]); omega) _)) f53 | go_keep) (by (try dsimp only); omega) (by first | (go_simp; done) | exact laterF (by repeat (first | exact Below.refl _ _ | refine Below.alloc ?_ (by (try simp only [World.size_alloc]); omega) _)) f53 z53 | go_keep)
    clear f53 z53
    have f75 : w6.cell? ⟨w.heap.size + 2, 1, none⟩ = some (.int .i64 0) := hg6.cell2 (by first | (go_simp; done) | exact later (by repeat (first | exact Below.refl _ _ | refine Below.alloc ?_ (by (try simp only [World.size_alloc]); omega) _)) f54 | go_keep) (by (try dsimp only); omega)
    have z75 : w6.frozen? ⟨w.heap.size + 2, 1, none⟩ = false := hg6.frozen2 (v := .int .i64 0) (by first | (go_simp; done) | exact later (by repeat (first | exact Below.refl _ _ | refine Below.alloc ?_ (by (try simp only [World.size_alloc]); omega) _)) f54 | go_keep) (by (try dsimp only); omega) (by first | (go_simp; done) | exact laterF (by repeat (first | exact Below.refl _ _ | refine Below.alloc ?_ (by (try simp only [World.size_alloc]); omega) _)) f54 z54 | go_keep)
    clear f54 z54
    have f76 : w6.cell? ⟨w.heap.size + 3, 0, none⟩ = some (.int .i64 0) := hg6.cell2 (by first | (go_simp; done) | exact later (by repeat (first | exact Below.refl _ _ | refine Below.alloc ?_ (by (try simp only [World.size_alloc]); omega) _)) f55 | go_keep) (by (try dsimp only); omega)
    have z76 : w6.frozen? ⟨w.heap.size + 3, 0, none⟩ = false := hg6.frozen2 (v := .int .i64 0) (by first | (go_simp; done) | exact later (by repeat (first | exact Below.refl _ _ | refine Below.alloc ?_ (by (try simp only [World.size_alloc]); omega) _)) f55 | go_keep) (by (try dsimp only); omega) (by first | (go_simp; done) | exact laterF (by repeat (first | exact Below.refl _ _ | refine Below.alloc ?_ (by (try simp only [World.size_alloc]); omega) _)) f55 z55 | go_keep)
    clear f55 z55
    have f77 : w6.cell? ⟨w.heap.size + 3, 1, none⟩ = some (.int .i64 0) := hg6.cell2 (by first | (go_simp; done) | exact later (by repeat (first | exact Below.refl _ _ | refine Below.alloc ?_ (by (try simp only [World.size_alloc]); omega) _)) f56 | go_keep) (by (try dsimp only); omega)
    have z77 : w6.frozen? ⟨w.heap.size + 3, 1, none⟩ = false := hg6.frozen2 (v := .int .i64 0) (by first | (go_simp; done) | exact later (by repeat (first | exact Below.refl _ _ | refine Below.alloc ?_ (by (try simp only [World.size_alloc]); omega) _)) f56 | go_keep) (by (try dsimp only); omega) (by first | (go_simp; done) | exact laterF (by repeat (first | exact Below.refl _ _ | refine Below.alloc ?_ (by (try simp only [World.size_alloc]); omega) _)) f56 z56 | go_keep)
    clear f56 z56
    have f78 : w6.cell? ⟨w4.heap.size, 0, none⟩ = some (.int .i64 x1) := hg6.cell2 (by first | (go_simp; done) | exact later (by repeat (first | exact Below.refl _ _ | refine Below.alloc ?_ (by (try simp only [World.size_alloc]); omega) _)) f57 | go_keep) (by (try dsimp only); omega)
    have z78 : w6.frozen? ⟨w4.heap.size, 0, none⟩ = false := hg6.frozen2 (v := .int .i64 x1) (by first | (go_simp; done) | exact later (by repeat (first | exact Below.refl _ _ | refine Below.alloc ?_ (by (try simp only [World.size_alloc]); omega) _)) f57 | go_keep) (by (try dsimp only); omega) (by first | (go_simp; done) | exact laterF (by repeat (first | exact Below.refl _ _ | refine Below.alloc ?_ (by (try simp only [World.size_alloc]); omega) _)) f57 z57 | go_keep)
    clear f57 z57
    have f79 : w6.cell? ⟨w4.heap.size, 1, none⟩ = some (.int .i64 y1) := hg6.cell2 (by first | (go_simp; done) | exact later (by repeat (first | exact Below.refl _ _ | refine Below.alloc ?_ (by (try simp only [World.size_alloc]); omega) _)) f58 | go_keep) (by (try dsimp only); omega)
    have z79 : w6.frozen? ⟨w4.heap.size, 1, none⟩ = false := hg6.frozen2 (v := .int .i64 y1) (by first | (go_simp; done) | exact later (by repeat (first | exact Below.refl _ _ | refine Below.alloc ?_ (by (try simp only [World.size_alloc]); omega) _)) f58 | go_keep) (by (try dsimp only); omega) (by first | (go_simp; done) | exact laterF (by repeat (first | exact Below.refl _ _ | refine Below.alloc ?_ (by (try simp only [World.size_alloc]); omega) _)) f58 z58 | go_keep)
    clear f58 z58
    have f80 : w6.cell? ⟨w4.heap.size + 1, 0, none⟩ = some (.int .i64 x2) := hg6.cell2 (by first | (go_simp; done) | exact later (by repeat (first | exact Below.refl _ _ | refine Below.alloc ?_ (by (try simp only [World.size_alloc]); omega) _)) f59 | go_keep) (by (try dsimp only); omega)
    have z80 : w6.frozen? ⟨w4.heap.size + 1, 0, none⟩ = false := hg6.frozen2 (v := .int .i64 x2) (by first | (go_simp; done) | exact later (by repeat (first | exact Below.refl _ _ | refine Below.alloc ?_ (by (try simp only [World.size_alloc]); omega) _)) f59 | go_keep) (by (try dsimp only); omega) (by first | (go_simp; done) | exact laterF (by repeat (first | exact Below.refl _ _ | refine Below.alloc ?_ (by (try simp only [World.size_alloc]); omega) _)) f59 z59 | go_keep)
    clear f59 z59
    have f81 : w6.cell? ⟨w4.heap.size + 1, 1, none⟩ = some (.int .i64 y2) := hg6.cell2 (by first | (go_simp; done) | exact later (by repeat (first | exact Below.refl _ _ | refine Below.alloc ?_ (by (try simp only [World.size_alloc]); omega) _)) f60 | go_keep) (by (try dsimp only); omega)
    have z81 : w6.frozen? ⟨w4.heap.size + 1, 1, none⟩ = false := hg6.frozen2 (v := .int .i64 y2) (by first | (go_simp; done) | exact later (by repeat (first | exact Below.refl _ _ | refine Below.alloc ?_ (by (try simp only [World.size_alloc]); omega) _)) f60 | go_keep) (by (try dsimp only); omega) (by first | (go_simp; done) | exact laterF (by repeat (first | exact Below.refl _ _ | refine Below.alloc ?_ (by (try simp only [World.size_alloc]); omega) _)) f60 z60 | go_keep)
    clear f60 z60
    have f82 : w6.cell? ⟨w4.heap.size + 2, 0, none⟩ = some (.int .i64 x3) := hg6.cell2 (by first | (go_simp; done) | exact later (by repeat (first | exact Below.refl _ _ | refine Below.alloc ?_ (by (try simp only [World.size_alloc]); omega) _)) f61 | go_keep) (by (try dsimp only); omega)
    have z82 : w6.frozen? ⟨w4.heap.size + 2, 0, none⟩ = false := hg6.frozen2 (v := .int .i64 x3) (by first | (go_simp; done) | exact later (by repeat (first | exact Below.refl _ _ | refine Below.alloc ?_ (by (try simp only [World.size_alloc]); omega) _)) f61 | go_keep) (by (try dsimp only); omega) (by first | (go_simp; done) | exact laterF (by repeat (first | exact Below.refl _ _ | refine Below.alloc ?_ (by (try simp only [World.size_alloc]); omega) _)) f61 z61 | go_keep)
    clear f61 z61
    have f83 : w6.cell? ⟨w4.heap.size + 2, 1, none⟩ = some (.int .i64 y3) := hg6.cell2 (by first | (go_simp; done) | exact later (by repeat (first | exact Below.refl _ _ | refine Below.alloc ?_ (by (try simp only [World.size_alloc]); omega) _)) f62 | go_keep) (by (try dsimp only); omega)
    have z83 : w6.frozen? ⟨w4.heap.size + 2, 1, none⟩ = false := hg6.frozen2 (v := .int .i64 y3) (by first | (go_simp; done) | exact later (by repeat (first | exact Below.refl _ _ | refine Below.alloc ?_ (by (try simp only [World.size_alloc]); omega) _)) f62 | go_keep) (by (try dsimp only); omega) (by first | (go_simp; done) | exact laterF (by repeat (first | exact Below.refl _ _ | refine Below.alloc ?_ (by (try simp only [World.size_alloc]); omega) _)) f62 z62 | go_keep)
    clear f62 z62
    have l84 : w.heap.size < w6.heap.size := World.block_lt_of_cell? _ _ f70
    have l85 : w.heap.size + 1 < w6.heap.size := World.block_lt_of_cell? _ _ f72
    have l86 : w.heap.size + 2 < w6.heap.size := World.block_lt_of_cell? _ _ f74
    have l87 : w.heap.size + 3 < w6.heap.size := World.block_lt_of_cell? _ _ f76
    have l88 : w4.heap.size < w6.heap.size := World.block_lt_of_cell? _ _ f78
    have l89 : w4.heap.size + 1 < w6.heap.size := World.block_lt_of_cell? _ _ f80
    have l90 : w4.heap.size + 2 < w6.heap.size := World.block_lt_of_cell? _ _ f82
    have hZ6 := hT6.size
    have ls6 := hS6.lt
    clear a1 b1
    go_upto_region 5 with fail
    have n91 : ¬ w.heap.size = w4.heap.size := (by omega)
    have n92 : ¬ w.heap.size = w4.heap.size + 1 := (by omega)
    have n93 : ¬ w.heap.size = w4.heap.size + 2 := (by omega)
    have n94 : ¬ w.heap.size + 1 = w4.heap.size := (by omega)
    have n95 : ¬ w.heap.size + 1 = w4.heap.size + 1 := (by omega)
    have n96 : ¬ w.heap.size = w4.heap.size := (by omega)
    have n97 : ¬ w.heap.size + 1 = w4.heap.size + 2 := (by omega)
    have n98 : ¬ w.heap.size = w4.heap.size + 1 := (by omega)
    have n99 : ¬ w.heap.size + 2 = w4.heap.size := (by omega)
    have n100 : ¬ w.heap.size + 2 = w4.heap.size + 1 := (by omega)
    have n101 : ¬ w.heap.size + 1 = w4.heap.size := (by omega)
    have n102 : ¬ w.heap.size + 2 = w4.heap.size + 2 := (by omega)
    have n103 : ¬ w.heap.size = w4.heap.size := (by omega)
    have n104 : ¬ w.heap.size + 3 = w4.heap.size := (by omega)
    have n105 : ¬ w.heap.size + 3 = w4.heap.size + 1 := (by omega)
    have n106 : ¬ w.heap.size + 2 = w4.heap.size := (by omega)
    have n107 : ¬ w.heap.size + 3 = w4.heap.size + 2 := (by omega)
    have n108 : ¬ w.heap.size + 1 = w4.heap.size := (by omega)
    have n109 : ¬ w4.heap.size = w.heap.size := (by omega)
    have n110 : ¬ w4.heap.size = w.heap.size + 1 := (by omega)
    have n111 : ¬ w4.heap.size = w.heap.size + 2 := (by omega)
    have n112 : ¬ w4.heap.size = w.heap.size + 3 := (by omega)
    have n113 : ¬ w4.heap.size + 1 = w.heap.size := (by omega)
    have n114 : ¬ w4.heap.size + 1 = w.heap.size + 1 := (by omega)
    have n115 : ¬ w4.heap.size = w.heap.size := (by omega)
    have n116 : ¬ w4.heap.size + 1 = w.heap.size + 2 := (by omega)
    have n117 : ¬ w4.heap.size = w.heap.size + 1 := (by omega)
    have n118 : ¬ w4.heap.size + 1 = w.heap.size + 3 := (by omega)
    have n119 : ¬ w4.heap.size = w.heap.size + 2 := (by omega)
    have n120 : ¬ w4.heap.size + 2 = w.heap.size := (by omega)
    have n121 : ¬ w4.heap.size + 2 = w.heap.size + 1 := (by omega)
    have n122 : ¬ w4.heap.size + 1 = w.heap.size := (by omega)
    have n123 : ¬ w4.heap.size + 2 = w.heap.size + 2 := (by omega)
    have n124 : ¬ w4.heap.size = w.heap.size := (by omega)
    have n125 : ¬ w4.heap.size + 2 = w.heap.size + 3 := (by omega)
    have n126 : ¬ w4.heap.size = w.heap.size + 1 := (by omega)
    go_region_held3 (fun w9 => w9.cell? ⟨w4.heap.size, 0, none⟩ = some (.int .i64 x1) ∧ w9.cell? ⟨w4.heap.size, 1, none⟩ = some (.int .i64 y1) ∧ w9.cell? ⟨w4.heap.size + 1, 0, none⟩ = some (.int .i64 x2) ∧ w9.cell? ⟨w4.heap.size + 1, 1, none⟩ = some (.int .i64 y2) ∧ w9.cell? ⟨w4.heap.size + 2, 0, none⟩ = some (.int .i64 x3) ∧ w9.cell? ⟨w4.heap.size + 2, 1, none⟩ = some (.int .i64 y3)) (first | with_reducible assumption | go_keep) (fail)
    have n127 : ¬ w.heap.size = w4.heap.size := (by omega)
    have n128 : ¬ w.heap.size = w4.heap.size + 1 := (by omega)
    have n129 : ¬ w.heap.size = w4.heap.size + 2 := (by omega)
    have n130 : ¬ w.heap.size + 1 = w4.heap.size := (by omega)
    have n131 : ¬ w.heap.size + 1 = w4.heap.size + 1 := (by omega)
    have n132 : ¬ w.heap.size = w4.heap.size := (by omega)
    have n133 : ¬ w.heap.size + 1 = w4.heap.size + 2 := (by omega)
    have n134 : ¬ w.heap.size = w4.heap.size + 1 := (by omega)
    have n135 : ¬ w.heap.size + 2 = w4.heap.size := (by omega)
    have n136 : ¬ w.heap.size + 2 = w4.heap.size + 1 := (by omega)
    have n137 : ¬ w.heap.size + 1 = w4.heap.size := (by omega)
    have n138 : ¬ w.heap.size + 2 = w4.heap.size + 2 := (by omega)
    have n139 : ¬ w.heap.size = w4.heap.size := (by omega)
    have n140 : ¬ w.heap.size + 3 = w4.heap.size := (by omega)
    have n141 : ¬ w.heap.size + 3 = w4.heap.size + 1 := (by omega)
    have n142 : ¬ w.heap.size + 2 = w4.heap.size := (by omega)
    have n143 : ¬ w.heap.size + 3 = w4.heap.size + 2 := (by omega)
    have n144 : ¬ w.heap.size + 1 = w4.heap.size := (by omega)
    have n145 : ¬ w4.heap.size = w.heap.size := (by omega)
    have n146 : ¬ w4.heap.size = w.heap.size + 1 := (by omega)
    have n147 : ¬ w4.heap.size = w.heap.size + 2 := (by omega)
    have n148 : ¬ w4.heap.size = w.heap.size + 3 := (by omega)
    have n149 : ¬ w4.heap.size + 1 = w.heap.size := (by omega)
    have n150 : ¬ w4.heap.size + 1 = w.heap.size + 1 := (by omega)
    have n151 : ¬ w4.heap.size = w.heap.size := (by omega)
    have n152 : ¬ w4.heap.size + 1 = w.heap.size + 2 := (by omega)
    have n153 : ¬ w4.heap.size = w.heap.size + 1 := (by omega)
    have n154 : ¬ w4.heap.size + 1 = w.heap.size + 3 := (by omega)
    have n155 : ¬ w4.heap.size = w.heap.size + 2 := (by omega)
    have n156 : ¬ w4.heap.size + 2 = w.heap.size := (by omega)
    have n157 : ¬ w4.heap.size + 2 = w.heap.size + 1 := (by omega)
    have n158 : ¬ w4.heap.size + 1 = w.heap.size := (by omega)
    have n159 : ¬ w4.heap.size + 2 = w.heap.size + 2 := (by omega)
    have n160 : ¬ w4.heap.size = w.heap.size := (by omega)
    have n161 : ¬ w4.heap.size + 2 = w.heap.size + 3 := (by omega)
    have n162 : ¬ w4.heap.size = w.heap.size + 1 := (by omega)
    go_wp2
    refine bodyPost_ret (v := .tuple #[.agg #[.int .i64 x1, .int .i64 y1], .agg #[.int .i64 x2, .int .i64 y2], .agg #[.int .i64 x3, .int .i64 y3], .agg #[.int .i64 (IntKind.i64.wrap (IntKind.i64.wrap (x1 + IntKind.i64.wrap (wrap64 (1 + k) * x2)) - x3)), .int .i64 (IntKind.i64.wrap (IntKind.i64.wrap (y1 + IntKind.i64.wrap (wrap64 (1 + k) * y2)) - y3))]]) (by simp [results, Try.results67, go_sem, f70, f71, f72, f73, f74, f75, f76, f77, f78, f79, f80, f81, f82, f83, z70, z71, z72, z73, z74, z75, z76, z77, z78, z79, z80, z81, z82, z83, n127, n128, n129, n130, n131, n132, n133, n134, n135, n136, n137, n138, n139, n140, n141, n142, n143, n144, n145, n146, n147, n148, n149, n150, n151, n152, n153, n154, n155, n156, n157, n158, n159, n160, n161, n162]) rfl ⟨x1, y1, x2, y2, x3, y3, (IntKind.i64.wrap (IntKind.i64.wrap (x1 + IntKind.i64.wrap (wrap64 (1 + k) * x2)) - x3)), (IntKind.i64.wrap (IntKind.i64.wrap (y1 + IntKind.i64.wrap (wrap64 (1 + k) * y2)) - y3)), rfl, (by repeat (first | with_reducible exact hT6 | with_reducible exact Below.refl _ _ | with_reducible refine Below.alloc ?_ (by (try simp only [World.size_alloc, World.size_drew, size_drewN, World.size_setCell]); omega) _ | with_reducible refine Below.setCell ?_ (by (try dsimp only); omega) _ | with_reducible refine below_drewN ?_ _ | with_reducible refine Below.drew ?_))⟩
  · have e1 : (e == 0) = false := by simpa using e0
    clear e0
    go_upto_region 6 with fail
    have n70 : ¬ w.heap.size = w4.heap.size := (by omega)
    have n71 : ¬ w.heap.size = w4.heap.size + 1 := (by omega)
    have n72 : ¬ w.heap.size = w4.heap.size + 2 := (by omega)
    have n73 : ¬ w.heap.size + 1 = w4.heap.size := (by omega)
    have n74 : ¬ w.heap.size + 1 = w4.heap.size + 1 := (by omega)
    have n75 : ¬ w.heap.size = w4.heap.size := (by omega)
    have n76 : ¬ w.heap.size + 1 = w4.heap.size + 2 := (by omega)
    have n77 : ¬ w.heap.size = w4.heap.size + 1 := (by omega)
    have n78 : ¬ w.heap.size + 2 = w4.heap.size := (by omega)
    have n79 : ¬ w.heap.size + 2 = w4.heap.size + 1 := (by omega)
    have n80 : ¬ w.heap.size + 1 = w4.heap.size := (by omega)
    have n81 : ¬ w.heap.size + 2 = w4.heap.size + 2 := (by omega)
    have n82 : ¬ w.heap.size = w4.heap.size := (by omega)
    have n83 : ¬ w.heap.size + 3 = w4.heap.size := (by omega)
    have n84 : ¬ w.heap.size + 3 = w4.heap.size + 1 := (by omega)
    have n85 : ¬ w.heap.size + 2 = w4.heap.size := (by omega)
    have n86 : ¬ w.heap.size + 3 = w4.heap.size + 2 := (by omega)
    have n87 : ¬ w.heap.size + 1 = w4.heap.size := (by omega)
    have n88 : ¬ w4.heap.size = w.heap.size := (by omega)
    have n89 : ¬ w4.heap.size = w.heap.size + 1 := (by omega)
    have n90 : ¬ w4.heap.size = w.heap.size + 2 := (by omega)
    have n91 : ¬ w4.heap.size = w.heap.size + 3 := (by omega)
    have n92 : ¬ w4.heap.size + 1 = w.heap.size := (by omega)
    have n93 : ¬ w4.heap.size + 1 = w.heap.size + 1 := (by omega)
    have n94 : ¬ w4.heap.size = w.heap.size := (by omega)
    have n95 : ¬ w4.heap.size + 1 = w.heap.size + 2 := (by omega)
    have n96 : ¬ w4.heap.size = w.heap.size + 1 := (by omega)
    have n97 : ¬ w4.heap.size + 1 = w.heap.size + 3 := (by omega)
    have n98 : ¬ w4.heap.size = w.heap.size + 2 := (by omega)
    have n99 : ¬ w4.heap.size + 2 = w.heap.size := (by omega)
    have n100 : ¬ w4.heap.size + 2 = w.heap.size + 1 := (by omega)
    have n101 : ¬ w4.heap.size + 1 = w.heap.size := (by omega)
    have n102 : ¬ w4.heap.size + 2 = w.heap.size + 2 := (by omega)
    have n103 : ¬ w4.heap.size = w.heap.size := (by omega)
    have n104 : ¬ w4.heap.size + 2 = w.heap.size + 3 := (by omega)
    have n105 : ¬ w4.heap.size = w.heap.size + 1 := (by omega)
    go_region_held3 (fun w9 => w9.cell? ⟨w4.heap.size, 0, none⟩ = some (.int .i64 x1) ∧ w9.cell? ⟨w4.heap.size, 1, none⟩ = some (.int .i64 y1) ∧ w9.cell? ⟨w4.heap.size + 1, 0, none⟩ = some (.int .i64 x2) ∧ w9.cell? ⟨w4.heap.size + 1, 1, none⟩ = some (.int .i64 y2) ∧ w9.cell? ⟨w4.heap.size + 2, 0, none⟩ = some (.int .i64 x3) ∧ w9.cell? ⟨w4.heap.size + 2, 1, none⟩ = some (.int .i64 y3)) (first | with_reducible assumption | go_keep) (first | (go_at_call 106; refine (dBear_any s _ (Src.drew hS5)).mono ?_; rintro en wx ⟨x4, y4, rfl, hSx, hgx⟩; have fr0 : wx.cell? ⟨w.heap.size, 0, none⟩ = some (.int .i64 0) := hgx.cell2 (by first | exact f49 | go_simp) (by (try dsimp only); omega); have frz0 : wx.frozen? ⟨w.heap.size, 0, none⟩ = false := hgx.frozen2 (v := .int .i64 0) (by first | exact f49 | go_simp) (by (try dsimp only); omega) (by first | exact z49 | go_simp); have fr1 : wx.cell? ⟨w.heap.size, 1, none⟩ = some (.int .i64 0) := hgx.cell2 (by first | exact f50 | go_simp) (by (try dsimp only); omega); have frz1 : wx.frozen? ⟨w.heap.size, 1, none⟩ = false := hgx.frozen2 (v := .int .i64 0) (by first | exact f50 | go_simp) (by (try dsimp only); omega) (by first | exact z50 | go_simp); have fr2 : wx.cell? ⟨w.heap.size + 1, 0, none⟩ = some (.int .i64 0) := hgx.cell2 (by first | exact f51 | go_simp) (by (try dsimp only); omega); have frz2 : wx.frozen? ⟨w.heap.size + 1, 0, none⟩ = false := hgx.frozen2 (v := .int .i64 0) (by first | exact f51 | go_simp) (by (try dsimp only); omega) (by first | exact z51 | go_simp); have fr3 : wx.cell? ⟨w.heap.size + 1, 1, none⟩ = some (.int .i64 0) := hgx.cell2 (by first | exact f52 | go_simp) (by (try dsimp only); omega); have frz3 : wx.frozen? ⟨w.heap.size + 1, 1, none⟩ = false := hgx.frozen2 (v := .int .i64 0) (by first | exact f52 | go_simp) (by (try dsimp only); omega) (by first | exact z52 | go_simp); have fr4 : wx.cell? ⟨w.heap.size + 2, 0, none⟩ = some (.int .i64 0) := hgx.cell2 (by first | exact f53 | go_simp) (by (try dsimp only); omega); have frz4 : wx.frozen? ⟨w.heap.size + 2, 0, none⟩ = false := hgx.frozen2 (v := .int .i64 0) (by first | exact f53 | go_simp) (by (try dsimp only); omega) (by first | exact z53 | go_simp); have fr5 : wx.cell? ⟨w.heap.size + 2, 1, none⟩ = some (.int .i64 0) := hgx.cell2 (by first | exact f54 | go_simp) (by (try dsimp only); omega); have frz5 : wx.frozen? ⟨w.heap.size + 2, 1, none⟩ = false := hgx.frozen2 (v := .int .i64 0) (by first | exact f54 | go_simp) (by (try dsimp only); omega) (by first | exact z54 | go_simp); have fr6 : wx.cell? ⟨w.heap.size + 3, 0, none⟩ = some (.int .i64 0) := hgx.cell2 (by first | exact f55 | go_simp) (by (try dsimp only); omega); have frz6 : wx.frozen? ⟨w.heap.size + 3, 0, none⟩ = false := hgx.frozen2 (v := .int .i64 0) (by first | exact f55 | go_simp) (by (try dsimp only); omega) (by first | exact z55 | go_simp); have fr7 : wx.cell? ⟨w.heap.size + 3, 1, none⟩ = some (.int .i64 0) := hgx.cell2 (by first | exact f56 | go_simp) (by (try dsimp only); omega); have frz7 : wx.frozen? ⟨w.heap.size + 3, 1, none⟩ = false := hgx.frozen2 (v := .int .i64 0) (by first | exact f56 | go_simp) (by (try dsimp only); omega) (by first | exact z56 | go_simp); have fr8 : wx.cell? ⟨w4.heap.size, 0, none⟩ = some (.int .i64 x1) := hgx.cell2 (by first | exact f57 | go_simp) (by (try dsimp only); omega); have frz8 : wx.frozen? ⟨w4.heap.size, 0, none⟩ = false := hgx.frozen2 (v := .int .i64 x1) (by first | exact f57 | go_simp) (by (try dsimp only); omega) (by first | exact z57 | go_simp); have fr9 : wx.cell? ⟨w4.heap.size, 1, none⟩ = some (.int .i64 y1) := hgx.cell2 (by first | exact f58 | go_simp) (by (try dsimp only); omega); have frz9 : wx.frozen? ⟨w4.heap.size, 1, none⟩ = false := hgx.frozen2 (v := .int .i64 y1) (by first | exact f58 | go_simp) (by (try dsimp only); omega) (by first | exact z58 | go_simp); have fr10 : wx.cell? ⟨w4.heap.size + 1, 0, none⟩ = some (.int .i64 x2) := hgx.cell2 (by first | exact f59 | go_simp) (by (try dsimp only); omega); have frz10 : wx.frozen? ⟨w4.heap.size + 1, 0, none⟩ = false := hgx.frozen2 (v := .int .i64 x2) (by first | exact f59 | go_simp) (by (try dsimp only); omega) (by first | exact z59 | go_simp); have fr11 : wx.cell? ⟨w4.heap.size + 1, 1, none⟩ = some (.int .i64 y2) := hgx.cell2 (by first | exact f60 | go_simp) (by (try dsimp only); omega); have frz11 : wx.frozen? ⟨w4.heap.size + 1, 1, none⟩ = false := hgx.frozen2 (v := .int .i64 y2) (by first | exact f60 | go_simp) (by (try dsimp only); omega) (by first | exact z60 | go_simp); have fr12 : wx.cell? ⟨w4.heap.size + 2, 0, none⟩ = some (.int .i64 x3) := hgx.cell2 (by first | exact f61 | go_simp) (by (try dsimp only); omega); have frz12 : wx.frozen? ⟨w4.heap.size + 2, 0, none⟩ = false := hgx.frozen2 (v := .int .i64 x3) (by first | exact f61 | go_simp) (by (try dsimp only); omega) (by first | exact z61 | go_simp); have fr13 : wx.cell? ⟨w4.heap.size + 2, 1, none⟩ = some (.int .i64 y3) := hgx.cell2 (by first | exact f62 | go_simp) (by (try dsimp only); omega); have frz13 : wx.frozen? ⟨w4.heap.size + 2, 1, none⟩ = false := hgx.frozen2 (v := .int .i64 y3) (by first | exact f62 | go_simp) (by (try dsimp only); omega) (by first | exact z62 | go_simp); have hTx : Below w.heap.size w wx := Below.trans (Below.drew hT5) (hgx.to_below (by omega) (by (try simp only [World.size_alloc, World.size_drew, size_drewN, World.size_setCell]); omega)); have lsx := hSx.lt; have hZx := hTx.size))
    have n106 : ¬ w.heap.size = w4.heap.size := (by omega)
    have n107 : ¬ w.heap.size = w4.heap.size + 1 := (by omega)
    have n108 : ¬ w.heap.size = w4.heap.size + 2 := (by omega)
    have n109 : ¬ w.heap.size + 1 = w4.heap.size := (by omega)
    have n110 : ¬ w.heap.size + 1 = w4.heap.size + 1 := (by omega)
    have n111 : ¬ w.heap.size = w4.heap.size := (by omega)
    have n112 : ¬ w.heap.size + 1 = w4.heap.size + 2 := (by omega)
    have n113 : ¬ w.heap.size = w4.heap.size + 1 := (by omega)
    have n114 : ¬ w.heap.size + 2 = w4.heap.size := (by omega)
    have n115 : ¬ w.heap.size + 2 = w4.heap.size + 1 := (by omega)
    have n116 : ¬ w.heap.size + 1 = w4.heap.size := (by omega)
    have n117 : ¬ w.heap.size + 2 = w4.heap.size + 2 := (by omega)
    have n118 : ¬ w.heap.size = w4.heap.size := (by omega)
    have n119 : ¬ w.heap.size + 3 = w4.heap.size := (by omega)
    have n120 : ¬ w.heap.size + 3 = w4.heap.size + 1 := (by omega)
    have n121 : ¬ w.heap.size + 2 = w4.heap.size := (by omega)
    have n122 : ¬ w.heap.size + 3 = w4.heap.size + 2 := (by omega)
    have n123 : ¬ w.heap.size + 1 = w4.heap.size := (by omega)
    have n124 : ¬ w4.heap.size = w.heap.size := (by omega)
    have n125 : ¬ w4.heap.size = w.heap.size + 1 := (by omega)
    have n126 : ¬ w4.heap.size = w.heap.size + 2 := (by omega)
    have n127 : ¬ w4.heap.size = w.heap.size + 3 := (by omega)
    have n128 : ¬ w4.heap.size + 1 = w.heap.size := (by omega)
    have n129 : ¬ w4.heap.size + 1 = w.heap.size + 1 := (by omega)
    have n130 : ¬ w4.heap.size = w.heap.size := (by omega)
    have n131 : ¬ w4.heap.size + 1 = w.heap.size + 2 := (by omega)
    have n132 : ¬ w4.heap.size = w.heap.size + 1 := (by omega)
    have n133 : ¬ w4.heap.size + 1 = w.heap.size + 3 := (by omega)
    have n134 : ¬ w4.heap.size = w.heap.size + 2 := (by omega)
    have n135 : ¬ w4.heap.size + 2 = w.heap.size := (by omega)
    have n136 : ¬ w4.heap.size + 2 = w.heap.size + 1 := (by omega)
    have n137 : ¬ w4.heap.size + 1 = w.heap.size := (by omega)
    have n138 : ¬ w4.heap.size + 2 = w.heap.size + 2 := (by omega)
    have n139 : ¬ w4.heap.size = w.heap.size := (by omega)
    have n140 : ¬ w4.heap.size + 2 = w.heap.size + 3 := (by omega)
    have n141 : ¬ w4.heap.size = w.heap.size + 1 := (by omega)
    go_wp2
    refine bodyPost_ret (v := .tuple #[.agg #[.int .i64 x1, .int .i64 y1], .agg #[.int .i64 x2, .int .i64 y2], .agg #[.int .i64 x3, .int .i64 y3], .agg #[.int .i64 x4, .int .i64 y4]]) (by simp [results, Try.results67, go_sem, fr0, fr1, fr2, fr3, fr4, fr5, fr6, fr7, fr8, fr9, fr10, fr11, fr12, fr13, frz0, frz1, frz2, frz3, frz4, frz5, frz6, frz7, frz8, frz9, frz10, frz11, frz12, frz13, n106, n107, n108, n109, n110, n111, n112, n113, n114, n115, n116, n117, n118, n119, n120, n121, n122, n123, n124, n125, n126, n127, n128, n129, n130, n131, n132, n133, n134, n135, n136, n137, n138, n139, n140, n141]) rfl ⟨x1, y1, x2, y2, x3, y3, x4, y4, rfl, (by repeat (first | with_reducible exact hTx | with_reducible exact Below.refl _ _ | with_reducible refine Below.alloc ?_ (by (try simp only [World.size_alloc, World.size_drew, size_drewN, World.size_setCell]); omega) _ | with_reducible refine Below.setCell ?_ (by (try dsimp only); omega) _ | with_reducible refine below_drewN ?_ _ | with_reducible refine Below.drew ?_))⟩
end Go.Proofs.Ytoccglmlpobeeaa
