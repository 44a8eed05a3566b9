/- walks: two tracks; what the laws draw -/
import Derived.Test.YtoccglmlpobeeaaDrW2
set_option linter.unusedVariables false
set_option linter.unusedSimpArgs false
namespace Go.Proofs.Ytoccglmlpobeeaa
open Go.RowKit
def TwoPost (s : Nat) (w : World) (en : Ending) (w9 : World) : Prop := ∃ p1 q1 r1 t1 p2 q2 r2 t2 : Int, en = .returned (.tuple #[.agg #[.int .i64 p1, .int .i64 q1, .int .i64 r1, .int .i64 t1], .agg #[.int .i64 p2, .int .i64 q2, .int .i64 r2, .int .i64 t2]]) ∧ Src w9 s ∧ Gs s w w9
set_option maxHeartbeats 8000000 in
theorem dTwo_any (s : Nat) (w : World) (h : Src w s) : Calls Try.prog 111 #[.pointer (some ⟨s, 0, none⟩)] w (TwoPost s w) := by
  go_enter Try.func111, Try.ntmps111
  have ls0 : s < w.heap.size := h.lt
  go_wp2_with fail
  refine (dTrack_any s _ (by repeat (first | with_reducible exact h | with_reducible refine Src.alloc ?_ _ | with_reducible refine Src.set ?_ (by omega) (by omega) | with_reducible refine Src.drewN ?_ _ | with_reducible refine Src.drew ?_))).mono ?_
  rintro en w1 ⟨p1, q1, r1, t1, rfl, hS1, hg1⟩
  have hT1 : Gs s w w1 := Gs.trans (by repeat (first | with_reducible exact Gs.refl _ _ | with_reducible exact Gs.refl _ _ | with_reducible refine Gs.alloc ?_ _ | with_reducible refine Gs.set_new ?_ (by omega) | with_reducible refine Gs.drewN ?_ _ | with_reducible refine Gs.drew ?_)) hg1
  have f1 : w1.cell? ⟨w.heap.size, 0, none⟩ = some (.int .i64 0) := hg1.cell2 (by first | (go_simp; done) | go_keep) (by (try dsimp only); omega)
  have z1 : w1.frozen? ⟨w.heap.size, 0, none⟩ = false := hg1.frozen2 (v := .int .i64 0) (by first | (go_simp; done) | go_keep) (by (try dsimp only); omega) (by first | (go_simp; done) | go_keep)
  have f2 : w1.cell? ⟨w.heap.size, 1, none⟩ = some (.int .i64 0) := hg1.cell2 (by first | (go_simp; done) | go_keep) (by (try dsimp only); omega)
  have z2 : w1.frozen? ⟨w.heap.size, 1, none⟩ = false := hg1.frozen2 (v := .int .i64 0) (by first | (go_simp; done) | go_keep) (by (try dsimp only); omega) (by first | (go_simp; done) | go_keep)
  have f3 : w1.cell? ⟨w.heap.size, 2, none⟩ = some (.int .i64 0) := hg1.cell2 (by first | (go_simp; done) | go_keep) (by (try dsimp only); omega)
  have z3 : w1.frozen? ⟨w.heap.size, 2, none⟩ = false := hg1.frozen2 (v := .int .i64 0) (by first | (go_simp; done) | go_keep) (by (try dsimp only); omega) (by first | (go_simp; done) | go_keep)
  have f4 : w1.cell? ⟨w.heap.size, 3, none⟩ = some (.int .i64 0) := hg1.cell2 (by first | (go_simp; done) | go_keep) (by (try dsimp only); omega)
  have z4 : w1.frozen? ⟨w.heap.size, 3, none⟩ = false := hg1.frozen2 (v := .int .i64 0) (by first | (go_simp; done) | go_keep) (by (try dsimp only); omega) (by first | (go_simp; done) | go_keep)
  have f5 : w1.cell? ⟨w.heap.size + 1, 0, none⟩ = some (.int .i64 0) := hg1.cell2 (by first | (go_simp; done) | go_keep) (by (try dsimp only); omega)
  have z5 : w1.frozen? ⟨w.heap.size + 1, 0, none⟩ = false := hg1.frozen2 (v := .int .i64 0) (by first | (go_simp; done) | go_keep) (by (try dsimp only); omega) (by first | (go_simp; done) | go_keep)
  have f6 : w1.cell? ⟨w.heap.size + 1, 1, none⟩ = some (.int .i64 0) := hg1.cell2 (by first | (go_simp; done) | go_keep) (by (try dsimp only); omega)
  have z6 : w1.frozen? ⟨w.heap.size + 1, 1, none⟩ = false := hg1.frozen2 (v := .int .i64 0) (by first | (go_simp; done) | go_keep) (by (try dsimp only); omega) (by first | (go_simp; done) | go_keep)
  have f7 : w1.cell? ⟨w.heap.size + 1, 2, none⟩ = some (.int .i64 0) := hg1.cell2 (by first | (go_simp; done) | go_keep) (by (try dsimp only); omega)
  have z7 : w1.frozen? ⟨w.heap.size + 1, 2, none⟩ = false := hg1.frozen2 (v := .int .i64 0) (by first | (go_simp; done) | go_keep) (by (try dsimp only); omega) (by first | (go_simp; done) | go_keep)
  have f8 : w1.cell? ⟨w.heap.size + 1, 3, none⟩ = some (.int .i64 0) := hg1.cell2 (by first | (go_simp; done) | go_keep) (by (try dsimp only); omega)
  have z8 : w1.frozen? ⟨w.heap.size + 1, 3, none⟩ = false := hg1.frozen2 (v := .int .i64 0) (by first | (go_simp; done) | go_keep) (by (try dsimp only); omega) (by first | (go_simp; done) | go_keep)
  have l9 : w.heap.size < w1.heap.size := World.block_lt_of_cell? _ _ f1
  have l10 : w.heap.size + 1 < w1.heap.size := World.block_lt_of_cell? _ _ f5
  have hZ1 := hT1.size
  have ls1 := hS1.lt
  go_wp2_with fail
  refine (dTrack_any s _ (by repeat (first | with_reducible exact hS1 | with_reducible refine Src.alloc ?_ _ | with_reducible refine Src.set ?_ (by omega) (by omega) | with_reducible refine Src.drewN ?_ _ | with_reducible refine Src.drew ?_))).mono ?_
  rintro en w2 ⟨p2, q2, r2, t2, rfl, hS2, hg2⟩
  have hT2 : Gs s w w2 := Gs.trans (by repeat (first | with_reducible exact hT1 | with_reducible exact Gs.refl _ _ | with_reducible refine Gs.alloc ?_ _ | with_reducible refine Gs.set_new ?_ (by omega) | with_reducible refine Gs.drewN ?_ _ | with_reducible refine Gs.drew ?_)) hg2
  have f11 : w2.cell? ⟨w.heap.size, 0, none⟩ = some (.int .i64 0) := hg2.cell2 (by first | (go_simp; done) | exact later (by repeat (first | exact Below.refl _ _ | refine Below.alloc ?_ (by (try simp only [World.size_alloc]); omega) _)) f1 | go_keep) (by (try dsimp only); omega)
  have z11 : w2.frozen? ⟨w.heap.size, 0, none⟩ = false := hg2.frozen2 (v := .int .i64 0) (by first | (go_simp; done) | exact later (by repeat (first | exact Below.refl _ _ | refine Below.alloc ?_ (by (try simp only [World.size_alloc]); omega) _)) f1 | go_keep) (by (try dsimp only); omega) (by first | (go_simp; done) | exact laterF (by repeat (first | exact Below.refl _ _ | refine Below.alloc ?_ (by (try simp only [World.size_alloc]); omega) _)) f1 z1 | go_keep)
  clear f1 z1
  have f12 : w2.cell? ⟨w.heap.size, 1, none⟩ = some (.int .i64 0) := hg2.cell2 (by first | (go_simp; done) | exact later (by repeat (first | exact Below.refl _ _ | refine Below.alloc ?_ (by (try simp only [World.size_alloc]); omega) _)) f2 | go_keep) (by (try dsimp only); omega)
  have z12 : w2.frozen? ⟨w.heap.size, 1, none⟩ = false := hg2.frozen2 (v := .int .i64 0) (by first | (go_simp; done) | exact later (by repeat (first | exact Below.refl _ _ | refine Below.alloc ?_ (by (try simp only [World.size_alloc]); omega) _)) f2 | go_keep) (by (try dsimp only); omega) (by first | (go_simp; done) | exact laterF (by repeat (first | exact Below.refl _ _ | refine Below.alloc ?_ (by (try simp only [World.size_alloc]); omega) _)) f2 z2 | go_keep)
  clear f2 z2
  have f13 : w2.cell? ⟨w.heap.size, 2, none⟩ = some (.int .i64 0) := hg2.cell2 (by first | (go_simp; done) | exact later (by repeat (first | exact Below.refl _ _ | refine Below.alloc ?_ (by (try simp only [World.size_alloc]); omega) _)) f3 | go_keep) (by (try dsimp only); omega)
  have z13 : w2.frozen? ⟨w.heap.size, 2, none⟩ = false := hg2.frozen2 (v := .int .i64 0) (by first | (go_simp; done) | exact later (by repeat (first | exact Below.refl _ _ | refine Below.alloc ?_ (by (try simp only [World.size_alloc]); omega) _)) f3 | go_keep) (by (try dsimp only); omega) (by first | (go_simp; done) | exact laterF (by repeat (first | exact Below.refl _ _ | refine Below.alloc ?_ (by (try simp only [World.size_alloc]); omega) _)) f3 z3 | go_keep)
  clear f3 z3
  have f14 : w2.cell? ⟨w.heap.size, 3, none⟩ = some (.int .i64 0) := hg2.cell2 (by first | (go_simp; done) | exact later (by repeat (first | exact Below.refl _ _ | refine Below.alloc ?_ (by (try simp only [World.size_alloc]); omega) _)) f4 | go_keep) (by (try dsimp only); omega)
  have z14 : w2.frozen? ⟨w.heap.size, 3, none⟩ = false := hg2.frozen2 (v := .int .i64 0) (by first | (go_simp; done) | exact later (by repeat (first | exact Below.refl _ _ | refine Below.alloc ?_ (by (try simp only [World.size_alloc]); omega) _)) f4 | go_keep) (by (try dsimp only); omega) (by first | (go_simp; done) | exact laterF (by repeat (first | exact Below.refl _ _ | refine Below.alloc ?_ (by (try simp only [World.size_alloc]); omega) _)) f4 z4 | go_keep)
  clear f4 z4
  have f15 : w2.cell? ⟨w.heap.size + 1, 0, none⟩ = some (.int .i64 0) := hg2.cell2 (by first | (go_simp; done) | exact later (by repeat (first | exact Below.refl _ _ | refine Below.alloc ?_ (by (try simp only [World.size_alloc]); omega) _)) f5 | go_keep) (by (try dsimp only); omega)
  have z15 : w2.frozen? ⟨w.heap.size + 1, 0, none⟩ = false := hg2.frozen2 (v := .int .i64 0) (by first | (go_simp; done) | exact later (by repeat (first | exact Below.refl _ _ | refine Below.alloc ?_ (by (try simp only [World.size_alloc]); omega) _)) f5 | go_keep) (by (try dsimp only); omega) (by first | (go_simp; done) | exact laterF (by repeat (first | exact Below.refl _ _ | refine Below.alloc ?_ (by (try simp only [World.size_alloc]); omega) _)) f5 z5 | go_keep)
  clear f5 z5
  have f16 : w2.cell? ⟨w.heap.size + 1, 1, none⟩ = some (.int .i64 0) := hg2.cell2 (by first | (go_simp; done) | exact later (by repeat (first | exact Below.refl _ _ | refine Below.alloc ?_ (by (try simp only [World.size_alloc]); omega) _)) f6 | go_keep) (by (try dsimp only); omega)
  have z16 : w2.frozen? ⟨w.heap.size + 1, 1, none⟩ = false := hg2.frozen2 (v := .int .i64 0) (by first | (go_simp; done) | exact later (by repeat (first | exact Below.refl _ _ | refine Below.alloc ?_ (by (try simp only [World.size_alloc]); omega) _)) f6 | go_keep) (by (try dsimp only); omega) (by first | (go_simp; done) | exact laterF (by repeat (first | exact Below.refl _ _ | refine Below.alloc ?_ (by (try simp only [World.size_alloc]); omega) _)) f6 z6 | go_keep)
  clear f6 z6
  have f17 : w2.cell? ⟨w.heap.size + 1, 2, none⟩ = some (.int .i64 0) := hg2.cell2 (by first | (go_simp; done) | exact later (by repeat (first | exact Below.refl _ _ | refine Below.alloc ?_ (by (try simp only [World.size_alloc]); omega) _)) f7 | go_keep) (by (try dsimp only); omega)
  have z17 : w2.frozen? ⟨w.heap.size + 1, 2, none⟩ = false := hg2.frozen2 (v := .int .i64 0) (by first | (go_simp; done) | exact later (by repeat (first | exact Below.refl _ _ | refine Below.alloc ?_ (by (try simp only [World.size_alloc]); omega) _)) f7 | go_keep) (by (try dsimp only); omega) (by first | (go_simp; done) | exact laterF (by repeat (first | exact Below.refl _ _ | refine Below.alloc ?_ (by (try simp only [World.size_alloc]); omega) _)) f7 z7 | go_keep)
  clear f7 z7
  have f18 : w2.cell? ⟨w.heap.size + 1, 3, none⟩ = some (.int .i64 0) := hg2.cell2 (by first | (go_simp; done) | exact later (by repeat (first | exact Below.refl _ _ | refine Below.alloc ?_ (by (try simp only [World.size_alloc]); omega) _)) f8 | go_keep) (by (try dsimp only); omega)
  have z18 : w2.frozen? ⟨w.heap.size + 1, 3, none⟩ = false := hg2.frozen2 (v := .int .i64 0) (by first | (go_simp; done) | exact later (by repeat (first | exact Below.refl _ _ | refine Below.alloc ?_ (by (try simp only [World.size_alloc]); omega) _)) f8 | go_keep) (by (try dsimp only); omega) (by first | (go_simp; done) | exact laterF (by repeat (first | exact Below.refl _ _ | refine Below.alloc ?_ (by (try simp only [World.size_alloc]); omega) _)) f8 z8 | go_keep)
  clear f8 z8
  have l19 : w.heap.size < w2.heap.size := World.block_lt_of_cell? _ _ f11
  have l20 : w.heap.size + 1 < w2.heap.size := World.block_lt_of_cell? _ _ f15
  have hZ2 := hT2.size
  have ls2 := hS2.lt
  go_wp2_with fail
  refine (next_any s _ _ (by repeat (first | with_reducible exact hS2 | with_reducible refine Src.alloc ?_ _ | with_reducible refine Src.set ?_ (by omega) (by omega) | with_reducible refine Src.drewN ?_ _ | with_reducible refine Src.drew ?_))).mono ?_
  rintro en w3 ⟨x1, rfl, a1, b1, hS3, hg3⟩
  have hT3 : Gs s w w3 := Gs.trans (by repeat (first | with_reducible exact hT2 | with_reducible exact Gs.refl _ _ | with_reducible refine Gs.alloc ?_ _ | with_reducible refine Gs.set_new ?_ (by omega) | with_reducible refine Gs.drewN ?_ _ | with_reducible refine Gs.drew ?_)) hg3
  have f21 : w3.cell? ⟨w.heap.size, 0, none⟩ = some (.int .i64 0) := hg3.cell2 (by first | (go_simp; done) | exact later (by repeat (first | exact Below.refl _ _ | refine Below.alloc ?_ (by (try simp only [World.size_alloc]); omega) _)) f11 | go_keep) (by (try dsimp only); omega)
  have z21 : w3.frozen? ⟨w.heap.size, 0, none⟩ = false := hg3.frozen2 (v := .int .i64 0) (by first | (go_simp; done) | exact later (by repeat (first | exact Below.refl _ _ | refine Below.alloc ?_ (by (try simp only [World.size_alloc]); omega) _)) f11 | go_keep) (by (try dsimp only); omega) (by first | (go_simp; done) | exact laterF (by repeat (first | exact Below.refl _ _ | refine Below.alloc ?_ (by (try simp only [World.size_alloc]); omega) _)) f11 z11 | go_keep)
  clear f11 z11
  have f22 : w3.cell? ⟨w.heap.size, 1, none⟩ = some (.int .i64 0) := hg3.cell2 (by first | (go_simp; done) | exact later (by repeat (first | exact Below.refl _ _ | refine Below.alloc ?_ (by (try simp only [World.size_alloc]); omega) _)) f12 | go_keep) (by (try dsimp only); omega)
  have z22 : w3.frozen? ⟨w.heap.size, 1, none⟩ = false := hg3.frozen2 (v := .int .i64 0) (by first | (go_simp; done) | exact later (by repeat (first | exact Below.refl _ _ | refine Below.alloc ?_ (by (try simp only [World.size_alloc]); omega) _)) f12 | go_keep) (by (try dsimp only); omega) (by first | (go_simp; done) | exact laterF (by repeat (first | exact Below.refl _ _ | refine Below.alloc ?_ (by (try simp only [World.size_alloc]); omega) _)) f12 z12 | go_keep)
  clear f12 z12
  have f23 : w3.cell? ⟨w.heap.size, 2, none⟩ = some (.int .i64 0) := hg3.cell2 (by first | (go_simp; done) | exact later (by repeat (first | exact Below.refl _ _ | refine Below.alloc ?_ (by (try simp only [World.size_alloc]); omega) _)) f13 | go_keep) (by (try dsimp only); omega)
  have z23 : w3.frozen? ⟨w.heap.size, 2, none⟩ = false := hg3.frozen2 (v := .int .i64 0) (by first | (go_simp; done) | exact later (by repeat (first | exact Below.refl _ _ | refine Below.alloc ?_ (by (try simp only [World.size_alloc]); omega) _)) f13 | go_keep) (by (try dsimp only); omega) (by first | (go_simp; done) | exact laterF (by repeat (first | exact Below.refl _ _ | refine Below.alloc ?_ (by (try simp only [World.size_alloc]); omega) _)) f13 z13 | go_keep)
  clear f13 z13
  have f24 : w3.cell? ⟨w.heap.size, 3, none⟩ = some (.int .i64 0) := hg3.cell2 (by first | (go_simp; done) | exact later (by repeat (first | exact Below.refl _ _ | refine Below.alloc ?_ (by (try simp only [World.size_alloc]); omega) _)) f14 | go_keep) (by (try dsimp only); omega)
  have z24 : w3.frozen? ⟨w.heap.size, 3, none⟩ = false := hg3.frozen2 (v := .int .i64 0) (by first | (go_simp; done) | exact later (by repeat (first | exact Below.refl _ _ | refine Below.alloc ?_ (by (try simp only [World.size_alloc]); omega) _)) f14 | go_keep) (by (try dsimp only); omega) (by first | (go_simp; done) | exact laterF (by repeat (first | exact Below.refl _ _ | refine Below.alloc ?_ (by (try simp only [World.size_alloc]); omega) _)) f14 z14 | go_keep)
  clear f14 z14
  have f25 : w3.cell? ⟨w.heap.size + 1, 0, none⟩ = some (.int .i64 0) := hg3.cell2 (by first | (go_simp; done) | exact later (by repeat (first | exact Below.refl _ _ | refine Below.alloc ?_ (by (try simp only [World.size_alloc]); omega) _)) f15 | go_keep) (by (try dsimp only); omega)
  have z25 : w3.frozen? ⟨w.heap.size + 1, 0, none⟩ = false := hg3.frozen2 (v := .int .i64 0) (by first | (go_simp; done) | exact later (by repeat (first | exact Below.refl _ _ | refine Below.alloc ?_ (by (try simp only [World.size_alloc]); omega) _)) f15 | go_keep) (by (try dsimp only); omega) (by first | (go_simp; done) | exact laterF (by repeat (first | exact Below.refl _ _ | refine Below.alloc ?_ (by (try simp only [World.size_alloc]); omega) _)) f15 z15 | go_keep)
  clear f15 z15
  have f26 : w3.cell? ⟨w.heap.size + 1, 1, none⟩ = some (.int .i64 0) := hg3.cell2 (by first | (go_simp; done) | exact later (by repeat (first | exact Below.refl _ _ | refine Below.alloc ?_ (by (try simp only [World.size_alloc]); omega) _)) f16 | go_keep) (by (try dsimp only); omega)
  have z26 : w3.frozen? ⟨w.heap.size + 1, 1, none⟩ = false := hg3.frozen2 (v := .int .i64 0) (by first | (go_simp; done) | exact later (by repeat (first | exact Below.refl _ _ | refine Below.alloc ?_ (by (try simp only [World.size_alloc]); omega) _)) f16 | go_keep) (by (try dsimp only); omega) (by first | (go_simp; done) | exact laterF (by repeat (first | exact Below.refl _ _ | refine Below.alloc ?_ (by (try simp only [World.size_alloc]); omega) _)) f16 z16 | go_keep)
  clear f16 z16
  have f27 : w3.cell? ⟨w.heap.size + 1, 2, none⟩ = some (.int .i64 0) := hg3.cell2 (by first | (go_simp; done) | exact later (by repeat (first | exact Below.refl _ _ | refine Below.alloc ?_ (by (try simp only [World.size_alloc]); omega) _)) f17 | go_keep) (by (try dsimp only); omega)
  have z27 : w3.frozen? ⟨w.heap.size + 1, 2, none⟩ = false := hg3.frozen2 (v := .int .i64 0) (by first | (go_simp; done) | exact later (by repeat (first | exact Below.refl _ _ | refine Below.alloc ?_ (by (try simp only [World.size_alloc]); omega) _)) f17 | go_keep) (by (try dsimp only); omega) (by first | (go_simp; done) | exact laterF (by repeat (first | exact Below.refl _ _ | refine Below.alloc ?_ (by (try simp only [World.size_alloc]); omega) _)) f17 z17 | go_keep)
  clear f17 z17
  have f28 : w3.cell? ⟨w.heap.size + 1, 3, none⟩ = some (.int .i64 0) := hg3.cell2 (by first | (go_simp; done) | exact later (by repeat (first | exact Below.refl _ _ | refine Below.alloc ?_ (by (try simp only [World.size_alloc]); omega) _)) f18 | go_keep) (by (try dsimp only); omega)
  have z28 : w3.frozen? ⟨w.heap.size + 1, 3, none⟩ = false := hg3.frozen2 (v := .int .i64 0) (by first | (go_simp; done) | exact later (by repeat (first | exact Below.refl _ _ | refine Below.alloc ?_ (by (try simp only [World.size_alloc]); omega) _)) f18 | go_keep) (by (try dsimp only); omega) (by first | (go_simp; done) | exact laterF (by repeat (first | exact Below.refl _ _ | refine Below.alloc ?_ (by (try simp only [World.size_alloc]); omega) _)) f18 z18 | go_keep)
  clear f18 z18
  have f29 : w3.cell? ⟨w2.heap.size, 0, none⟩ = some (.int .i64 p1) := hg3.cell2 (by first | (go_simp; done) | go_keep) (by (try dsimp only); omega)
  have z29 : w3.frozen? ⟨w2.heap.size, 0, none⟩ = false := hg3.frozen2 (v := .int .i64 p1) (by first | (go_simp; done) | go_keep) (by (try dsimp only); omega) (by first | (go_simp; done) | go_keep)
  have f30 : w3.cell? ⟨w2.heap.size, 1, none⟩ = some (.int .i64 q1) := hg3.cell2 (by first | (go_simp; done) | go_keep) (by (try dsimp only); omega)
  have z30 : w3.frozen? ⟨w2.heap.size, 1, none⟩ = false := hg3.frozen2 (v := .int .i64 q1) (by first | (go_simp; done) | go_keep) (by (try dsimp only); omega) (by first | (go_simp; done) | go_keep)
  have f31 : w3.cell? ⟨w2.heap.size, 2, none⟩ = some (.int .i64 r1) := hg3.cell2 (by first | (go_simp; done) | go_keep) (by (try dsimp only); omega)
  have z31 : w3.frozen? ⟨w2.heap.size, 2, none⟩ = false := hg3.frozen2 (v := .int .i64 r1) (by first | (go_simp; done) | go_keep) (by (try dsimp only); omega) (by first | (go_simp; done) | go_keep)
  have f32 : w3.cell? ⟨w2.heap.size, 3, none⟩ = some (.int .i64 t1) := hg3.cell2 (by first | (go_simp; done) | go_keep) (by (try dsimp only); omega)
  have z32 : w3.frozen? ⟨w2.heap.size, 3, none⟩ = false := hg3.frozen2 (v := .int .i64 t1) (by first | (go_simp; done) | go_keep) (by (try dsimp only); omega) (by first | (go_simp; done) | go_keep)
  have f33 : w3.cell? ⟨w2.heap.size + 1, 0, none⟩ = some (.int .i64 p2) := hg3.cell2 (by first | (go_simp; done) | go_keep) (by (try dsimp only); omega)
  have z33 : w3.frozen? ⟨w2.heap.size + 1, 0, none⟩ = false := hg3.frozen2 (v := .int .i64 p2) (by first | (go_simp; done) | go_keep) (by (try dsimp only); omega) (by first | (go_simp; done) | go_keep)
  have f34 : w3.cell? ⟨w2.heap.size + 1, 1, none⟩ = some (.int .i64 q2) := hg3.cell2 (by first | (go_simp; done) | go_keep) (by (try dsimp only); omega)
  have z34 : w3.frozen? ⟨w2.heap.size + 1, 1, none⟩ = false := hg3.frozen2 (v := .int .i64 q2) (by first | (go_simp; done) | go_keep) (by (try dsimp only); omega) (by first | (go_simp; done) | go_keep)
  have f35 : w3.cell? ⟨w2.heap.size + 1, 2, none⟩ = some (.int .i64 r2) := hg3.cell2 (by first | (go_simp; done) | go_keep) (by (try dsimp only); omega)
  have z35 : w3.frozen? ⟨w2.heap.size + 1, 2, none⟩ = false := hg3.frozen2 (v := .int .i64 r2) (by first | (go_simp; done) | go_keep) (by (try dsimp only); omega) (by first | (go_simp; done) | go_keep)
  have f36 : w3.cell? ⟨w2.heap.size + 1, 3, none⟩ = some (.int .i64 t2) := hg3.cell2 (by first | (go_simp; done) | go_keep) (by (try dsimp only); omega)
  have z36 : w3.frozen? ⟨w2.heap.size + 1, 3, none⟩ = false := hg3.frozen2 (v := .int .i64 t2) (by first | (go_simp; done) | go_keep) (by (try dsimp only); omega) (by first | (go_simp; done) | go_keep)
  have l37 : w.heap.size < w3.heap.size := World.block_lt_of_cell? _ _ f21
  have l38 : w.heap.size + 1 < w3.heap.size := World.block_lt_of_cell? _ _ f25
  have l39 : w2.heap.size < w3.heap.size := World.block_lt_of_cell? _ _ f29
  have l40 : w2.heap.size + 1 < w3.heap.size := World.block_lt_of_cell? _ _ f33
  have hZ3 := hT3.size
  have ls3 := hS3.lt
  clear a1 b1
  by_cases e0 : x1 = 0
  · have e1 : (x1 == 0) = true := by simpa using e0
    clear e0
    go_wp2_with fail
    refine (next_any s _ _ (by repeat (first | with_reducible exact hS3 | with_reducible refine Src.alloc ?_ _ | with_reducible refine Src.set ?_ (by omega) (by omega) | with_reducible refine Src.drewN ?_ _ | with_reducible refine Src.drew ?_))).mono ?_
    rintro en w4 ⟨k, rfl, a1, b1, hS4, hg4⟩
    have hT4 : Gs s w w4 := Gs.trans (by repeat (first | with_reducible exact hT3 | with_reducible exact Gs.refl _ _ | with_reducible refine Gs.alloc ?_ _ | with_reducible refine Gs.set_new ?_ (by omega) | with_reducible refine Gs.drewN ?_ _ | with_reducible refine Gs.drew ?_)) hg4
    have f41 : w4.cell? ⟨w.heap.size, 0, none⟩ = some (.int .i64 0) := hg4.cell2 (by first | (go_simp; done) | exact later (by repeat (first | exact Below.refl _ _ | refine Below.alloc ?_ (by (try simp only [World.size_alloc]); omega) _)) f21 | go_keep) (by (try dsimp only); omega)
    have z41 : w4.frozen? ⟨w.heap.size, 0, none⟩ = false := hg4.frozen2 (v := .int .i64 0) (by first | (go_simp; done) | exact later (by repeat (first | exact Below.refl _ _ | refine Below.alloc ?_ (by (try simp only [World.size_alloc]); omega) _)) f21 | go_keep) (by (try dsimp only); omega) (by first | (go_simp; done) | exact laterF (by repeat (first | exact Below.refl _ _ | refine Below.alloc ?_ (by (try simp only [World.size_alloc]); omega) _)) f21 z21 | go_keep)
    clear f21 z21
    have f42 : w4.cell? ⟨w.heap.size, 1, none⟩ = some (.int .i64 0) := hg4.cell2 (by first | (go_simp; done) | exact later (by repeat (first | exact Below.refl _ _ | refine Below.alloc ?_ (by (try simp only [World.size_alloc]); omega) _)) f22 | go_keep) (by (try dsimp only); omega)
    have z42 : w4.frozen? ⟨w.heap.size, 1, none⟩ = false := hg4.frozen2 (v := .int .i64 0) (by first | (go_simp; done) | exact later (by repeat (first | exact Below.refl _ _ | refine Below.alloc ?_ (by (try simp only [World.size_alloc]); omega) _)) f22 | go_keep) (by (try dsimp only); omega) (by first | (go_simp; done) | exact laterF (by repeat (first | exact Below.refl _ _ | refine Below.alloc ?_ (by (try simp only [World.size_alloc]); omega) _)) f22 z22 | go_keep)
    clear f22 z22
    have f43 : w4.cell? ⟨w.heap.size, 2, none⟩ = some (.int .i64 0) := hg4.cell2 (by first | (go_simp; done) | exact later (by repeat (first | exact Below.refl _ _ | refine Below.alloc ?_ (by (try simp only [World.size_alloc]); omega) _)) f23 | go_keep) (by (try dsimp only); omega)
    have z43 : w4.frozen? ⟨w.heap.size, 2, none⟩ = false := hg4.frozen2 (v := .int .i64 0) (by first | (go_simp; done) | exact later (by repeat (first | exact Below.refl _ _ | refine Below.alloc ?_ (by (try simp only [World.size_alloc]); omega) _)) f23 | go_keep) (by (try dsimp only); omega) (by first | (go_simp; done) | exact laterF (by repeat (first | exact Below.refl _ _ | refine Below.alloc ?_ (by (try simp only [World.size_alloc]); omega) _)) f23 z23 | go_keep)
    clear f23 z23
    have f44 : w4.cell? ⟨w.heap.size, 3, none⟩ = some (.int .i64 0) := hg4.cell2 (by first | (go_simp; done) | exact later (by repeat (first | exact Below.refl _ _ | refine Below.alloc ?_ (by (try simp only [World.size_alloc]); omega) _)) f24 | go_keep) (by (try dsimp only); omega)
    have z44 : w4.frozen? ⟨w.heap.size, 3, none⟩ = false := hg4.frozen2 (v := .int .i64 0) (by first | (go_simp; done) | exact later (by repeat (first | exact Below.refl _ _ | refine Below.alloc ?_ (by (try simp only [World.size_alloc]); omega) _)) f24 | go_keep) (by (try dsimp only); omega) (by first | (go_simp; done) | exact laterF (by repeat (first | exact Below.refl _ _ | refine Below.alloc ?_ (by (try simp only [World.size_alloc]); omega) _)) f24 z24 | go_keep)
    clear f24 z24
    have f45 : w4.cell? ⟨w.heap.size + 1, 0, none⟩ = some (.int .i64 0) := hg4.cell2 (by first | (go_simp; done) | exact later (by repeat (first | exact Below.refl _ _ | refine Below.alloc ?_ (by (try simp only [World.size_alloc]); omega) _)) f25 | go_keep) (by (try dsimp only); omega)
    have z45 : w4.frozen? ⟨w.heap.size + 1, 0, none⟩ = false := hg4.frozen2 (v := .int .i64 0) (by first | (go_simp; done) | exact later (by repeat (first | exact Below.refl _ _ | refine Below.alloc ?_ (by (try simp only [World.size_alloc]); omega) _)) f25 | go_keep) (by (try dsimp only); omega) (by first | (go_simp; done) | exact laterF (by repeat (first | exact Below.refl _ _ | refine Below.alloc ?_ (by (try simp only [World.size_alloc]); omega) _)) f25 z25 | go_keep)
    clear f25 z25
    have f46 : w4.cell? ⟨w.heap.size + 1, 1, none⟩ = some (.int .i64 0) := hg4.cell2 (by first | (go_simp; done) | exact later (by repeat (first | exact Below.refl _ _ | refine Below.alloc ?_ (by (try simp only [World.size_alloc]); omega) _)) f26 | go_keep) (by (try dsimp only); omega)
    have z46 : w4.frozen? ⟨w.heap.size + 1, 1, none⟩ = false := hg4.frozen2 (v := .int .i64 0) (by first | (go_simp; done) | exact later (by repeat (first | exact Below.refl _ _ | refine Below.alloc ?_ (by (try simp only [World.size_alloc]); omega) _)) f26 | go_keep) (by (try dsimp only); omega) (by first | (go_simp; done) | exact laterF (by repeat (first | exact Below.refl _ _ | refine Below.alloc ?_ (by (try simp only [World.size_alloc]); omega) _)) f26 z26 | go_keep)
    clear f26 z26
    have f47 : w4.cell? ⟨w.heap.size + 1, 2, none⟩ = some (.int .i64 0) := hg4.cell2 (by first | (go_simp; done) | exact later (by repeat (first | exact Below.refl _ _ | refine Below.alloc ?_ (by (try simp only [World.size_alloc]); omega) _)) f27 | go_keep) (by (try dsimp only); omega)
    have z47 : w4.frozen? ⟨w.heap.size + 1, 2, none⟩ = false := hg4.frozen2 (v := .int .i64 0) (by first | (go_simp; done) | exact later (by repeat (first | exact Below.refl _ _ | refine Below.alloc ?_ (by (try simp only [World.size_alloc]); omega) _)) f27 | go_keep) (by (try dsimp only); omega) (by first | (go_simp; done) | exact laterF (by repeat (first | exact Below.refl _ _ | refine Below.alloc ?_ (by (try simp only [World.size_alloc]); omega) _)) f27 z27 | go_keep)
    clear f27 z27
    have f48 : w4.cell? ⟨w.heap.size + 1, 3, none⟩ = some (.int .i64 0) := hg4.cell2 (by first | (go_simp; done) | exact later (by repeat (first | exact Below.refl _ _ | refine Below.alloc ?_ (by (try simp only [World.size_alloc]); omega) _)) f28 | go_keep) (by (try dsimp only); omega)
    have z48 : w4.frozen? ⟨w.heap.size + 1, 3, none⟩ = false := hg4.frozen2 (v := .int .i64 0) (by first | (go_simp; done) | exact later (by repeat (first | exact Below.refl _ _ | refine Below.alloc ?_ (by (try simp only [World.size_alloc]); omega) _)) f28 | go_keep) (by (try dsimp only); omega) (by first | (go_simp; done) | exact laterF (by repeat (first | exact Below.refl _ _ | refine Below.alloc ?_ (by (try simp only [World.size_alloc]); omega) _)) f28 z28 | go_keep)
    clear f28 z28
    have f49 : w4.cell? ⟨w2.heap.size, 0, none⟩ = some (.int .i64 p1) := hg4.cell2 (by first | (go_simp; done) | exact later (by repeat (first | exact Below.refl _ _ | refine Below.alloc ?_ (by (try simp only [World.size_alloc]); omega) _)) f29 | go_keep) (by (try dsimp only); omega)
    have z49 : w4.frozen? ⟨w2.heap.size, 0, none⟩ = false := hg4.frozen2 (v := .int .i64 p1) (by first | (go_simp; done) | exact later (by repeat (first | exact Below.refl _ _ | refine Below.alloc ?_ (by (try simp only [World.size_alloc]); omega) _)) f29 | go_keep) (by (try dsimp only); omega) (by first | (go_simp; done) | exact laterF (by repeat (first | exact Below.refl _ _ | refine Below.alloc ?_ (by (try simp only [World.size_alloc]); omega) _)) f29 z29 | go_keep)
    clear f29 z29
    have f50 : w4.cell? ⟨w2.heap.size, 1, none⟩ = some (.int .i64 q1) := hg4.cell2 (by first | (go_simp; done) | exact later (by repeat (first | exact Below.refl _ _ | refine Below.alloc ?_ (by (try simp only [World.size_alloc]); omega) _)) f30 | go_keep) (by (try dsimp only); omega)
    have z50 : w4.frozen? ⟨w2.heap.size, 1, none⟩ = false := hg4.frozen2 (v := .int .i64 q1) (by first | (go_simp; done) | exact later (by repeat (first | exact Below.refl _ _ | refine Below.alloc ?_ (by (try simp only [World.size_alloc]); omega) _)) f30 | go_keep) (by (try dsimp only); omega) (by first | (go_simp; done) | exact laterF (by repeat (first | exact Below.refl _ _ | refine Below.alloc ?_ (by (try simp only [World.size_alloc]); omega) _)) f30 z30 | go_keep)
    clear f30 z30
    have f51 : w4.cell? ⟨w2.heap.size, 2, none⟩ = some (.int .i64 r1) := hg4.cell2 (by first | (go_simp; done) | exact later (by repeat (first | exact Below.refl _ _ | refine Below.alloc ?_ (by (try simp only [World.size_alloc]); omega) _)) f31 | go_keep) (by (try dsimp only); omega)
    have z51 : w4.frozen? ⟨w2.heap.size, 2, none⟩ = false := hg4.frozen2 (v := .int .i64 r1) (by first | (go_simp; done) | exact later (by repeat (first | exact Below.refl _ _ | refine Below.alloc ?_ (by (try simp only [World.size_alloc]); omega) _)) f31 | go_keep) (by (try dsimp only); omega) (by first | (go_simp; done) | exact laterF (by repeat (first | exact Below.refl _ _ | refine Below.alloc ?_ (by (try simp only [World.size_alloc]); omega) _)) f31 z31 | go_keep)
    clear f31 z31
    have f52 : w4.cell? ⟨w2.heap.size, 3, none⟩ = some (.int .i64 t1) := hg4.cell2 (by first | (go_simp; done) | exact later (by repeat (first | exact Below.refl _ _ | refine Below.alloc ?_ (by (try simp only [World.size_alloc]); omega) _)) f32 | go_keep) (by (try dsimp only); omega)
    have z52 : w4.frozen? ⟨w2.heap.size, 3, none⟩ = false := hg4.frozen2 (v := .int .i64 t1) (by first | (go_simp; done) | exact later (by repeat (first | exact Below.refl _ _ | refine Below.alloc ?_ (by (try simp only [World.size_alloc]); omega) _)) f32 | go_keep) (by (try dsimp only); omega) (by first | (go_simp; done) | exact laterF (by repeat (first | exact Below.refl _ _ | refine Below.alloc ?_ (by (try simp only [World.size_alloc]); omega) _)) f32 z32 | go_keep)
    clear f32 z32
    have f53 : w4.cell? ⟨w2.heap.size + 1, 0, none⟩ = some (.int .i64 p2) := hg4.cell2 (by first | (go_simp; done) | exact later (by repeat (first | exact Below.refl _ _ | refine Below.alloc ?_ (by (try simp only [World.size_alloc]); omega) _)) f33 | go_keep) (by (try dsimp only); omega)
    have z53 : w4.frozen? ⟨w2.heap.size + 1, 0, none⟩ = false := hg4.frozen2 (v := .int .i64 p2) (by first | (go_simp; done) | exact later (by repeat (first | exact Below.refl _ _ | refine Below.alloc ?_ (by (try simp only [World.size_alloc]); omega) _)) f33 | go_keep) (by (try dsimp only); omega) (by first | (go_simp; done) | exact laterF (by repeat (first | exact Below.refl _ _ | refine Below.alloc ?_ (by (try simp only [World.size_alloc]); omega) _)) f33 z33 | go_keep)
    clear f33 z33
    have f54 : w4.cell? ⟨w2.heap.size + 1, 1, none⟩ = some (.int .i64 q2) := hg4.cell2 (by first | (go_simp; done) | exact later (by repeat (first | exact Below.refl _ _ | refine Below.alloc ?_ (by (try simp only [World.size_alloc]); omega) _)) f34 | go_keep) (by (try dsimp only); omega)
    have z54 : w4.frozen? ⟨w2.heap.size + 1, 1, none⟩ = false := hg4.frozen2 (v := .int .i64 q2) (by first | (go_simp; done) | exact later (by repeat (first | exact Below.refl _ _ | refine Below.alloc ?_ (by (try simp only [World.size_alloc]); omega) _)) f34 | go_keep) (by (try dsimp only); omega) (by first | (go_simp; done) | exact laterF (by repeat (first | exact Below.refl _ _ | refine Below.alloc ?_ (by (try simp only [World.size_alloc]); omega) _)) f34 z34 | go_keep)
    clear f34 z34
    have f55 : w4.cell? ⟨w2.heap.size + 1, 2, none⟩ = some (.int .i64 r2) := hg4.cell2 (by first | (go_simp; done) | exact later (by repeat (first | exact Below.refl _ _ | refine Below.alloc ?_ (by (try simp only [World.size_alloc]); omega) _)) f35 | go_keep) (by (try dsimp only); omega)
    have z55 : w4.frozen? ⟨w2.heap.size + 1, 2, none⟩ = false := hg4.frozen2 (v := .int .i64 r2) (by first | (go_simp; done) | exact later (by repeat (first | exact Below.refl _ _ | refine Below.alloc ?_ (by (try simp only [World.size_alloc]); omega) _)) f35 | go_keep) (by (try dsimp only); omega) (by first | (go_simp; done) | exact laterF (by repeat (first | exact Below.refl _ _ | refine Below.alloc ?_ (by (try simp only [World.size_alloc]); omega) _)) f35 z35 | go_keep)
    clear f35 z35
    have f56 : w4.cell? ⟨w2.heap.size + 1, 3, none⟩ = some (.int .i64 t2) := hg4.cell2 (by first | (go_simp; done) | exact later (by repeat (first | exact Below.refl _ _ | refine Below.alloc ?_ (by (try simp only [World.size_alloc]); omega) _)) f36 | go_keep) (by (try dsimp only); omega)
    have z56 : w4.frozen? ⟨w2.heap.size + 1, 3, none⟩ = false := hg4.frozen2 (v := .int .i64 t2) (by first | (go_simp; done) | exact later (by repeat (first | exact Below.refl _ _ | refine Below.alloc ?_ (by (try simp only [World.size_alloc]); omega) _)) f36 | go_keep) (by (try dsimp only); omega) (by first | (go_simp; done) | exact laterF (by repeat (first | exact Below.refl _ _ | refine Below.alloc ?_ (by (try simp only [World.size_alloc]); omega) _)) f36 z36 | go_keep)
    clear f36 z36
    have l57 : w.heap.size < w4.heap.size := World.block_lt_of_cell? _ _ f41
    have l58 : w.heap.size + 1 < w4.heap.size := World.block_lt_of_cell? _ _ f45
    have l59 : w2.heap.size < w4.heap.size := World.block_lt_of_cell? _ _ f49
    have l60 : w2.heap.size + 1 < w4.heap.size := World.block_lt_of_cell? _ _ f53
    have hZ4 := hT4.size
    have ls4 := hS4.lt
    clear a1 b1
    have n61 : ¬ w.heap.size = w2.heap.size := (by omega)
    have n62 : ¬ w.heap.size = w2.heap.size + 1 := (by omega)
    have n63 : ¬ w.heap.size + 1 = w2.heap.size := (by omega)
    have n64 : ¬ w.heap.size + 1 = w2.heap.size + 1 := (by omega)
    have n65 : ¬ w.heap.size = w2.heap.size := (by omega)
    have n66 : ¬ w2.heap.size = w.heap.size := (by omega)
    have n67 : ¬ w2.heap.size = w.heap.size + 1 := (by omega)
    have n68 : ¬ w2.heap.size + 1 = w.heap.size := (by omega)
    have n69 : ¬ w2.heap.size + 1 = w.heap.size + 1 := (by omega)
    have n70 : ¬ w2.heap.size = w.heap.size := (by omega)
    go_wp2
    go_region
    have n71 : ¬ w.heap.size = w2.heap.size := (by omega)
    have n72 : ¬ w.heap.size = w2.heap.size + 1 := (by omega)
    have n73 : ¬ w.heap.size + 1 = w2.heap.size := (by omega)
    have n74 : ¬ w.heap.size + 1 = w2.heap.size + 1 := (by omega)
    have n75 : ¬ w.heap.size = w2.heap.size := (by omega)
    have n76 : ¬ w2.heap.size = w.heap.size := (by omega)
    have n77 : ¬ w2.heap.size = w.heap.size + 1 := (by omega)
    have n78 : ¬ w2.heap.size + 1 = w.heap.size := (by omega)
    have n79 : ¬ w2.heap.size + 1 = w.heap.size + 1 := (by omega)
    have n80 : ¬ w2.heap.size = w.heap.size := (by omega)
    go_wp2
    refine bodyPost_ret (v := .tuple #[.agg #[.int .i64 p1, .int .i64 q1, .int .i64 r1, .int .i64 t1], .agg #[.int .i64 (wrap64 (p1 + wrap64 (k * wrap64 (r1 - r2)))), .int .i64 (wrap64 (q1 + wrap64 (k * wrap64 (t1 - t2)))), .int .i64 r2, .int .i64 t2]]) (by simp [results, Try.results111, go_sem, f41, f42, f43, f44, f45, f46, f47, f48, f49, f50, f51, f52, f53, f54, f55, f56, z41, z42, z43, z44, z45, z46, z47, z48, z49, z50, z51, z52, z53, z54, z55, z56, n71, n72, n73, n74, n75, n76, n77, n78, n79, n80]) rfl ⟨p1, q1, r1, t1, (wrap64 (p1 + wrap64 (k * wrap64 (r1 - r2)))), (wrap64 (q1 + wrap64 (k * wrap64 (t1 - t2)))), r2, t2, rfl, (by repeat (first | with_reducible exact hS4 | with_reducible refine Src.alloc ?_ _ | with_reducible refine Src.set ?_ (by omega) (by omega) | with_reducible refine Src.drewN ?_ _ | with_reducible refine Src.drew ?_)), (by repeat (first | with_reducible exact hT4 | with_reducible exact Gs.refl _ _ | with_reducible refine Gs.alloc ?_ _ | with_reducible refine Gs.set_new ?_ (by omega) | with_reducible refine Gs.drewN ?_ _ | with_reducible refine Gs.drew ?_))⟩
  · have e1 : (x1 == 0) = false := by simpa using e0
    clear e0
    have n41 : ¬ w.heap.size = w2.heap.size := (by omega)
    have n42 : ¬ w.heap.size = w2.heap.size + 1 := (by omega)
    have n43 : ¬ w.heap.size + 1 = w2.heap.size := (by omega)
    have n44 : ¬ w.heap.size + 1 = w2.heap.size + 1 := (by omega)
    have n45 : ¬ w.heap.size = w2.heap.size := (by omega)
    have n46 : ¬ w2.heap.size = w.heap.size := (by omega)
    have n47 : ¬ w2.heap.size = w.heap.size + 1 := (by omega)
    have n48 : ¬ w2.heap.size + 1 = w.heap.size := (by omega)
    have n49 : ¬ w2.heap.size + 1 = w.heap.size + 1 := (by omega)
    have n50 : ¬ w2.heap.size = w.heap.size := (by omega)
    go_wp2
    go_region
    have n51 : ¬ w.heap.size = w2.heap.size := (by omega)
    have n52 : ¬ w.heap.size = w2.heap.size + 1 := (by omega)
    have n53 : ¬ w.heap.size + 1 = w2.heap.size := (by omega)
    have n54 : ¬ w.heap.size + 1 = w2.heap.size + 1 := (by omega)
    have n55 : ¬ w.heap.size = w2.heap.size := (by omega)
    have n56 : ¬ w2.heap.size = w.heap.size := (by omega)
    have n57 : ¬ w2.heap.size = w.heap.size + 1 := (by omega)
    have n58 : ¬ w2.heap.size + 1 = w.heap.size := (by omega)
    have n59 : ¬ w2.heap.size + 1 = w.heap.size + 1 := (by omega)
    have n60 : ¬ w2.heap.size = w.heap.size := (by omega)
    go_wp2
    refine bodyPost_ret (v := .tuple #[.agg #[.int .i64 p1, .int .i64 q1, .int .i64 r1, .int .i64 t1], .agg #[.int .i64 p2, .int .i64 q2, .int .i64 r2, .int .i64 t2]]) (by simp [results, Try.results111, go_sem, f21, f22, f23, f24, f25, f26, f27, f28, f29, f30, f31, f32, f33, f34, f35, f36, z21, z22, z23, z24, z25, z26, z27, z28, z29, z30, z31, z32, z33, z34, z35, z36, n51, n52, n53, n54, n55, n56, n57, n58, n59, n60]) rfl ⟨p1, q1, r1, t1, p2, q2, r2, t2, rfl, (by repeat (first | with_reducible exact hS3 | with_reducible refine Src.alloc ?_ _ | with_reducible refine Src.set ?_ (by omega) (by omega) | with_reducible refine Src.drewN ?_ _ | with_reducible refine Src.drew ?_)), (by repeat (first | with_reducible exact hT3 | with_reducible exact Gs.refl _ _ | with_reducible refine Gs.alloc ?_ _ | with_reducible refine Gs.set_new ?_ (by omega) | with_reducible refine Gs.drewN ?_ _ | with_reducible refine Gs.drew ?_))⟩
end Go.Proofs.Ytoccglmlpobeeaa
