/- walks: bearings, tracks, times drawn -/
import Derived.Test.YtoccglmlpobeeaaDrW
set_option linter.unusedVariables false
set_option linter.unusedSimpArgs false
namespace Go.Proofs.Ytoccglmlpobeeaa
open Go.RowKit
theorem Rd.new2 {w : World} (b : Nat) (t : TypeId) (xs : List Int) (hb : b = w.heap.size) : Rd (w.alloc (.cells (xs.map (Value.int .i64)).toArray t)) (some ⟨b, 0, none⟩) xs := by
  subst hb; exact Rd.new _ _ _
set_option maxHeartbeats 8000000 in
theorem dBear_any (s : Nat) (w : World) (h : Src w s) : Calls Try.prog 106 #[.pointer (some ⟨s, 0, none⟩)] w (PtPost s w) := by
  go_enter Try.func106, Try.ntmps106
  have ls0 : s < w.heap.size := h.lt
  go_wp2_with fail
  refine (pick_any s _ 3 3 [2, 9, 60] _ (by repeat (first | with_reducible exact h | with_reducible refine Src.alloc ?_ _ | with_reducible refine Src.set ?_ (by omega) (by omega) | with_reducible refine Src.drewN ?_ _ | with_reducible refine Src.drew ?_)) rfl (by decide) (by decide) (Rd.new2 _ _ [2, 9, 60] (by first | (simp only [World.size_alloc]; done) | (go_size; done))) (fun b off e => by cases e; omega)).mono ?_
  rintro en w1 ⟨y, rfl, hy, hS1, hg1⟩
  have hT1 : Gs s w w1 := Gs.trans (by repeat (first | with_reducible exact Gs.refl _ _ | with_reducible exact Gs.refl _ _ | with_reducible refine Gs.alloc ?_ _ | with_reducible refine Gs.set_new ?_ (by omega) | with_reducible refine Gs.drewN ?_ _ | with_reducible refine Gs.drew ?_)) hg1
  have f1 : w1.cell? ⟨w.heap.size, 0, none⟩ = some (.int .i64 0) := hg1.cell2 (by first | (go_simp; done) | go_keep) (by (try dsimp only); omega)
  have z1 : w1.frozen? ⟨w.heap.size, 0, none⟩ = false := hg1.frozen2 (v := .int .i64 0) (by first | (go_simp; done) | go_keep) (by (try dsimp only); omega) (by first | (go_simp; done) | go_keep)
  have f2 : w1.cell? ⟨w.heap.size, 1, none⟩ = some (.int .i64 0) := hg1.cell2 (by first | (go_simp; done) | go_keep) (by (try dsimp only); omega)
  have z2 : w1.frozen? ⟨w.heap.size, 1, none⟩ = false := hg1.frozen2 (v := .int .i64 0) (by first | (go_simp; done) | go_keep) (by (try dsimp only); omega) (by first | (go_simp; done) | go_keep)
  have l3 : w.heap.size < w1.heap.size := World.block_lt_of_cell? _ _ f1
  have hZ1 := hT1.size
  have ls1 := hS1.lt
  clear hy
  go_wp2_with fail
  refine (dPoint_any s _ _ _ (by repeat (first | with_reducible exact hS1 | with_reducible refine Src.alloc ?_ _ | with_reducible refine Src.set ?_ (by omega) (by omega) | with_reducible refine Src.drewN ?_ _ | with_reducible refine Src.drew ?_))).mono ?_
  rintro en w2 ⟨x1, y1, rfl, hS2, hg2⟩
  have hT2 : Gs s w w2 := Gs.trans (by repeat (first | with_reducible exact hT1 | with_reducible exact Gs.refl _ _ | with_reducible refine Gs.alloc ?_ _ | with_reducible refine Gs.set_new ?_ (by omega) | with_reducible refine Gs.drewN ?_ _ | with_reducible refine Gs.drew ?_)) hg2
  have f4 : w2.cell? ⟨w.heap.size, 0, none⟩ = some (.int .i64 0) := hg2.cell2 (by first | (go_simp; done) | exact later (by repeat (first | exact Below.refl _ _ | refine Below.alloc ?_ (by (try simp only [World.size_alloc]); omega) _)) f1 | go_keep) (by (try dsimp only); omega)
  have z4 : w2.frozen? ⟨w.heap.size, 0, none⟩ = false := hg2.frozen2 (v := .int .i64 0) (by first | (go_simp; done) | exact later (by repeat (first | exact Below.refl _ _ | refine Below.alloc ?_ (by (try simp only [World.size_alloc]); omega) _)) f1 | go_keep) (by (try dsimp only); omega) (by first | (go_simp; done) | exact laterF (by repeat (first | exact Below.refl _ _ | refine Below.alloc ?_ (by (try simp only [World.size_alloc]); omega) _)) f1 z1 | go_keep)
  clear f1 z1
  have f5 : w2.cell? ⟨w.heap.size, 1, none⟩ = some (.int .i64 0) := hg2.cell2 (by first | (go_simp; done) | exact later (by repeat (first | exact Below.refl _ _ | refine Below.alloc ?_ (by (try simp only [World.size_alloc]); omega) _)) f2 | go_keep) (by (try dsimp only); omega)
  have z5 : w2.frozen? ⟨w.heap.size, 1, none⟩ = false := hg2.frozen2 (v := .int .i64 0) (by first | (go_simp; done) | exact later (by repeat (first | exact Below.refl _ _ | refine Below.alloc ?_ (by (try simp only [World.size_alloc]); omega) _)) f2 | go_keep) (by (try dsimp only); omega) (by first | (go_simp; done) | exact laterF (by repeat (first | exact Below.refl _ _ | refine Below.alloc ?_ (by (try simp only [World.size_alloc]); omega) _)) f2 z2 | go_keep)
  clear f2 z2
  have l6 : w.heap.size < w2.heap.size := World.block_lt_of_cell? _ _ f4
  have hZ2 := hT2.size
  have ls2 := hS2.lt
  go_wp2
  refine bodyPost_ret (v := .agg #[.int .i64 x1, .int .i64 y1]) (by simp [results, Try.results106, go_sem, f4, f5, z4, z5]) rfl ⟨x1, y1, rfl, (by repeat (first | with_reducible exact hS2 | with_reducible refine Src.alloc ?_ _ | with_reducible refine Src.set ?_ (by omega) (by omega) | with_reducible refine Src.drewN ?_ _ | with_reducible refine Src.drew ?_)), (by repeat (first | with_reducible exact hT2 | with_reducible exact Gs.refl _ _ | with_reducible refine Gs.alloc ?_ _ | with_reducible refine Gs.set_new ?_ (by omega) | with_reducible refine Gs.drewN ?_ _ | with_reducible refine Gs.drew ?_))⟩
set_option maxHeartbeats 8000000 in
theorem dTrack_any (s : Nat) (w : World) (h : Src w s) : Calls Try.prog 109 #[.pointer (some ⟨s, 0, none⟩)] w (TrPost s w) := by
  go_enter Try.func109, Try.ntmps109
  have ls0 : s < w.heap.size := h.lt
  go_wp2_with fail
  refine (pick_any s _ 2 2 [10, 500] _ (by repeat (first | with_reducible exact h | with_reducible refine Src.alloc ?_ _ | with_reducible refine Src.set ?_ (by omega) (by omega) | with_reducible refine Src.drewN ?_ _ | with_reducible refine Src.drew ?_)) rfl (by decide) (by decide) (Rd.new2 _ _ [10, 500] (by first | (simp only [World.size_alloc]; done) | (go_size; done))) (fun b off e => by cases e; omega)).mono ?_
  rintro en w1 ⟨y, rfl, hy, hS1, hg1⟩
  have hT1 : Gs s w w1 := Gs.trans (by repeat (first | with_reducible exact Gs.refl _ _ | with_reducible exact Gs.refl _ _ | with_reducible refine Gs.alloc ?_ _ | with_reducible refine Gs.set_new ?_ (by omega) | with_reducible refine Gs.drewN ?_ _ | with_reducible refine Gs.drew ?_)) hg1
  have f1 : w1.cell? ⟨w.heap.size, 0, none⟩ = some (.int .i64 0) := hg1.cell2 (by first | (go_simp; done) | go_keep) (by (try dsimp only); omega)
  have z1 : w1.frozen? ⟨w.heap.size, 0, none⟩ = false := hg1.frozen2 (v := .int .i64 0) (by first | (go_simp; done) | go_keep) (by (try dsimp only); omega) (by first | (go_simp; done) | go_keep)
  have f2 : w1.cell? ⟨w.heap.size, 1, none⟩ = some (.int .i64 0) := hg1.cell2 (by first | (go_simp; done) | go_keep) (by (try dsimp only); omega)
  have z2 : w1.frozen? ⟨w.heap.size, 1, none⟩ = false := hg1.frozen2 (v := .int .i64 0) (by first | (go_simp; done) | go_keep) (by (try dsimp only); omega) (by first | (go_simp; done) | go_keep)
  have f3 : w1.cell? ⟨w.heap.size, 2, none⟩ = some (.int .i64 0) := hg1.cell2 (by first | (go_simp; done) | go_keep) (by (try dsimp only); omega)
  have z3 : w1.frozen? ⟨w.heap.size, 2, none⟩ = false := hg1.frozen2 (v := .int .i64 0) (by first | (go_simp; done) | go_keep) (by (try dsimp only); omega) (by first | (go_simp; done) | go_keep)
  have f4 : w1.cell? ⟨w.heap.size, 3, none⟩ = some (.int .i64 0) := hg1.cell2 (by first | (go_simp; done) | go_keep) (by (try dsimp only); omega)
  have z4 : w1.frozen? ⟨w.heap.size, 3, none⟩ = false := hg1.frozen2 (v := .int .i64 0) (by first | (go_simp; done) | go_keep) (by (try dsimp only); omega) (by first | (go_simp; done) | go_keep)
  have l5 : w.heap.size < w1.heap.size := World.block_lt_of_cell? _ _ f1
  have hZ1 := hT1.size
  have ls1 := hS1.lt
  clear hy
  go_wp2_with fail
  refine (dPoint_any s _ _ _ (by repeat (first | with_reducible exact hS1 | with_reducible refine Src.alloc ?_ _ | with_reducible refine Src.set ?_ (by omega) (by omega) | with_reducible refine Src.drewN ?_ _ | with_reducible refine Src.drew ?_))).mono ?_
  rintro en w2 ⟨x1, y1, rfl, hS2, hg2⟩
  have hT2 : Gs s w w2 := Gs.trans (by repeat (first | with_reducible exact hT1 | with_reducible exact Gs.refl _ _ | with_reducible refine Gs.alloc ?_ _ | with_reducible refine Gs.set_new ?_ (by omega) | with_reducible refine Gs.drewN ?_ _ | with_reducible refine Gs.drew ?_)) hg2
  have f6 : w2.cell? ⟨w.heap.size, 0, none⟩ = some (.int .i64 0) := hg2.cell2 (by first | (go_simp; done) | exact later (by repeat (first | exact Below.refl _ _ | refine Below.alloc ?_ (by (try simp only [World.size_alloc]); omega) _)) f1 | go_keep) (by (try dsimp only); omega)
  have z6 : w2.frozen? ⟨w.heap.size, 0, none⟩ = false := hg2.frozen2 (v := .int .i64 0) (by first | (go_simp; done) | exact later (by repeat (first | exact Below.refl _ _ | refine Below.alloc ?_ (by (try simp only [World.size_alloc]); omega) _)) f1 | go_keep) (by (try dsimp only); omega) (by first | (go_simp; done) | exact laterF (by repeat (first | exact Below.refl _ _ | refine Below.alloc ?_ (by (try simp only [World.size_alloc]); omega) _)) f1 z1 | go_keep)
  clear f1 z1
  have f7 : w2.cell? ⟨w.heap.size, 1, none⟩ = some (.int .i64 0) := hg2.cell2 (by first | (go_simp; done) | exact later (by repeat (first | exact Below.refl _ _ | refine Below.alloc ?_ (by (try simp only [World.size_alloc]); omega) _)) f2 | go_keep) (by (try dsimp only); omega)
  have z7 : w2.frozen? ⟨w.heap.size, 1, none⟩ = false := hg2.frozen2 (v := .int .i64 0) (by first | (go_simp; done) | exact later (by repeat (first | exact Below.refl _ _ | refine Below.alloc ?_ (by (try simp only [World.size_alloc]); omega) _)) f2 | go_keep) (by (try dsimp only); omega) (by first | (go_simp; done) | exact laterF (by repeat (first | exact Below.refl _ _ | refine Below.alloc ?_ (by (try simp only [World.size_alloc]); omega) _)) f2 z2 | go_keep)
  clear f2 z2
  have f8 : w2.cell? ⟨w.heap.size, 2, none⟩ = some (.int .i64 0) := hg2.cell2 (by first | (go_simp; done) | exact later (by repeat (first | exact Below.refl _ _ | refine Below.alloc ?_ (by (try simp only [World.size_alloc]); omega) _)) f3 | go_keep) (by (try dsimp only); omega)
  have z8 : w2.frozen? ⟨w.heap.size, 2, none⟩ = false := hg2.frozen2 (v := .int .i64 0) (by first | (go_simp; done) | exact later (by repeat (first | exact Below.refl _ _ | refine Below.alloc ?_ (by (try simp only [World.size_alloc]); omega) _)) f3 | go_keep) (by (try dsimp only); omega) (by first | (go_simp; done) | exact laterF (by repeat (first | exact Below.refl _ _ | refine Below.alloc ?_ (by (try simp only [World.size_alloc]); omega) _)) f3 z3 | go_keep)
  clear f3 z3
  have f9 : w2.cell? ⟨w.heap.size, 3, none⟩ = some (.int .i64 0) := hg2.cell2 (by first | (go_simp; done) | exact later (by repeat (first | exact Below.refl _ _ | refine Below.alloc ?_ (by (try simp only [World.size_alloc]); omega) _)) f4 | go_keep) (by (try dsimp only); omega)
  have z9 : w2.frozen? ⟨w.heap.size, 3, none⟩ = false := hg2.frozen2 (v := .int .i64 0) (by first | (go_simp; done) | exact later (by repeat (first | exact Below.refl _ _ | refine Below.alloc ?_ (by (try simp only [World.size_alloc]); omega) _)) f4 | go_keep) (by (try dsimp only); omega) (by first | (go_simp; done) | exact laterF (by repeat (first | exact Below.refl _ _ | refine Below.alloc ?_ (by (try simp only [World.size_alloc]); omega) _)) f4 z4 | go_keep)
  clear f4 z4
  have l10 : w.heap.size < w2.heap.size := World.block_lt_of_cell? _ _ f6
  have hZ2 := hT2.size
  have ls2 := hS2.lt
  go_wp2_with fail
  refine (pick_any s _ 2 2 [2, 8] _ (by repeat (first | with_reducible exact hS2 | with_reducible refine Src.alloc ?_ _ | with_reducible refine Src.set ?_ (by omega) (by omega) | with_reducible refine Src.drewN ?_ _ | with_reducible refine Src.drew ?_)) rfl (by decide) (by decide) (Rd.new2 _ _ [2, 8] (by first | (simp only [World.size_alloc]; done) | (go_size; done))) (fun b off e => by cases e; omega)).mono ?_
  rintro en w3 ⟨z, rfl, hy, hS3, hg3⟩
  have hT3 : Gs s w w3 := Gs.trans (by repeat (first | with_reducible exact hT2 | with_reducible exact Gs.refl _ _ | with_reducible refine Gs.alloc ?_ _ | with_reducible refine Gs.set_new ?_ (by omega) | with_reducible refine Gs.drewN ?_ _ | with_reducible refine Gs.drew ?_)) hg3
  have f11 : w3.cell? ⟨w.heap.size, 0, none⟩ = some (.int .i64 0) := hg3.cell2 (by first | (go_simp; done) | exact later (by repeat (first | exact Below.refl _ _ | refine Below.alloc ?_ (by (try simp only [World.size_alloc]); omega) _)) f6 | go_keep) (by (try dsimp only); omega)
  have z11 : w3.frozen? ⟨w.heap.size, 0, none⟩ = false := hg3.frozen2 (v := .int .i64 0) (by first | (go_simp; done) | exact later (by repeat (first | exact Below.refl _ _ | refine Below.alloc ?_ (by (try simp only [World.size_alloc]); omega) _)) f6 | go_keep) (by (try dsimp only); omega) (by first | (go_simp; done) | exact laterF (by repeat (first | exact Below.refl _ _ | refine Below.alloc ?_ (by (try simp only [World.size_alloc]); omega) _)) f6 z6 | go_keep)
  clear f6 z6
  have f12 : w3.cell? ⟨w.heap.size, 1, none⟩ = some (.int .i64 0) := hg3.cell2 (by first | (go_simp; done) | exact later (by repeat (first | exact Below.refl _ _ | refine Below.alloc ?_ (by (try simp only [World.size_alloc]); omega) _)) f7 | go_keep) (by (try dsimp only); omega)
  have z12 : w3.frozen? ⟨w.heap.size, 1, none⟩ = false := hg3.frozen2 (v := .int .i64 0) (by first | (go_simp; done) | exact later (by repeat (first | exact Below.refl _ _ | refine Below.alloc ?_ (by (try simp only [World.size_alloc]); omega) _)) f7 | go_keep) (by (try dsimp only); omega) (by first | (go_simp; done) | exact laterF (by repeat (first | exact Below.refl _ _ | refine Below.alloc ?_ (by (try simp only [World.size_alloc]); omega) _)) f7 z7 | go_keep)
  clear f7 z7
  have f13 : w3.cell? ⟨w.heap.size, 2, none⟩ = some (.int .i64 0) := hg3.cell2 (by first | (go_simp; done) | exact later (by repeat (first | exact Below.refl _ _ | refine Below.alloc ?_ (by (try simp only [World.size_alloc]); omega) _)) f8 | go_keep) (by (try dsimp only); omega)
  have z13 : w3.frozen? ⟨w.heap.size, 2, none⟩ = false := hg3.frozen2 (v := .int .i64 0) (by first | (go_simp; done) | exact later (by repeat (first | exact Below.refl _ _ | refine Below.alloc ?_ (by (try simp only [World.size_alloc]); omega) _)) f8 | go_keep) (by (try dsimp only); omega) (by first | (go_simp; done) | exact laterF (by repeat (first | exact Below.refl _ _ | refine Below.alloc ?_ (by (try simp only [World.size_alloc]); omega) _)) f8 z8 | go_keep)
  clear f8 z8
  have f14 : w3.cell? ⟨w.heap.size, 3, none⟩ = some (.int .i64 0) := hg3.cell2 (by first | (go_simp; done) | exact later (by repeat (first | exact Below.refl _ _ | refine Below.alloc ?_ (by (try simp only [World.size_alloc]); omega) _)) f9 | go_keep) (by (try dsimp only); omega)
  have z14 : w3.frozen? ⟨w.heap.size, 3, none⟩ = false := hg3.frozen2 (v := .int .i64 0) (by first | (go_simp; done) | exact later (by repeat (first | exact Below.refl _ _ | refine Below.alloc ?_ (by (try simp only [World.size_alloc]); omega) _)) f9 | go_keep) (by (try dsimp only); omega) (by first | (go_simp; done) | exact laterF (by repeat (first | exact Below.refl _ _ | refine Below.alloc ?_ (by (try simp only [World.size_alloc]); omega) _)) f9 z9 | go_keep)
  clear f9 z9
  have l15 : w.heap.size < w3.heap.size := World.block_lt_of_cell? _ _ f11
  have hZ3 := hT3.size
  have ls3 := hS3.lt
  clear hy
  go_wp2_with fail
  refine (dPoint_any s _ _ _ (by repeat (first | with_reducible exact hS3 | with_reducible refine Src.alloc ?_ _ | with_reducible refine Src.set ?_ (by omega) (by omega) | with_reducible refine Src.drewN ?_ _ | with_reducible refine Src.drew ?_))).mono ?_
  rintro en w4 ⟨x2, y2, rfl, hS4, hg4⟩
  have hT4 : Gs s w w4 := Gs.trans (by repeat (first | with_reducible exact hT3 | with_reducible exact Gs.refl _ _ | with_reducible refine Gs.alloc ?_ _ | with_reducible refine Gs.set_new ?_ (by omega) | with_reducible refine Gs.drewN ?_ _ | with_reducible refine Gs.drew ?_)) hg4
  have f16 : w4.cell? ⟨w.heap.size, 0, none⟩ = some (.int .i64 0) := hg4.cell2 (by first | (go_simp; done) | exact later (by repeat (first | exact Below.refl _ _ | refine Below.alloc ?_ (by (try simp only [World.size_alloc]); omega) _)) f11 | go_keep) (by (try dsimp only); omega)
  have z16 : w4.frozen? ⟨w.heap.size, 0, none⟩ = false := hg4.frozen2 (v := .int .i64 0) (by first | (go_simp; done) | exact later (by repeat (first | exact Below.refl _ _ | refine Below.alloc ?_ (by (try simp only [World.size_alloc]); omega) _)) f11 | go_keep) (by (try dsimp only); omega) (by first | (go_simp; done) | exact laterF (by repeat (first | exact Below.refl _ _ | refine Below.alloc ?_ (by (try simp only [World.size_alloc]); omega) _)) f11 z11 | go_keep)
  clear f11 z11
  have f17 : w4.cell? ⟨w.heap.size, 1, none⟩ = some (.int .i64 0) := hg4.cell2 (by first | (go_simp; done) | exact later (by repeat (first | exact Below.refl _ _ | refine Below.alloc ?_ (by (try simp only [World.size_alloc]); omega) _)) f12 | go_keep) (by (try dsimp only); omega)
  have z17 : w4.frozen? ⟨w.heap.size, 1, none⟩ = false := hg4.frozen2 (v := .int .i64 0) (by first | (go_simp; done) | exact later (by repeat (first | exact Below.refl _ _ | refine Below.alloc ?_ (by (try simp only [World.size_alloc]); omega) _)) f12 | go_keep) (by (try dsimp only); omega) (by first | (go_simp; done) | exact laterF (by repeat (first | exact Below.refl _ _ | refine Below.alloc ?_ (by (try simp only [World.size_alloc]); omega) _)) f12 z12 | go_keep)
  clear f12 z12
  have f18 : w4.cell? ⟨w.heap.size, 2, none⟩ = some (.int .i64 0) := hg4.cell2 (by first | (go_simp; done) | exact later (by repeat (first | exact Below.refl _ _ | refine Below.alloc ?_ (by (try simp only [World.size_alloc]); omega) _)) f13 | go_keep) (by (try dsimp only); omega)
  have z18 : w4.frozen? ⟨w.heap.size, 2, none⟩ = false := hg4.frozen2 (v := .int .i64 0) (by first | (go_simp; done) | exact later (by repeat (first | exact Below.refl _ _ | refine Below.alloc ?_ (by (try simp only [World.size_alloc]); omega) _)) f13 | go_keep) (by (try dsimp only); omega) (by first | (go_simp; done) | exact laterF (by repeat (first | exact Below.refl _ _ | refine Below.alloc ?_ (by (try simp only [World.size_alloc]); omega) _)) f13 z13 | go_keep)
  clear f13 z13
  have f19 : w4.cell? ⟨w.heap.size, 3, none⟩ = some (.int .i64 0) := hg4.cell2 (by first | (go_simp; done) | exact later (by repeat (first | exact Below.refl _ _ | refine Below.alloc ?_ (by (try simp only [World.size_alloc]); omega) _)) f14 | go_keep) (by (try dsimp only); omega)
  have z19 : w4.frozen? ⟨w.heap.size, 3, none⟩ = false := hg4.frozen2 (v := .int .i64 0) (by first | (go_simp; done) | exact later (by repeat (first | exact Below.refl _ _ | refine Below.alloc ?_ (by (try simp only [World.size_alloc]); omega) _)) f14 | go_keep) (by (try dsimp only); omega) (by first | (go_simp; done) | exact laterF (by repeat (first | exact Below.refl _ _ | refine Below.alloc ?_ (by (try simp only [World.size_alloc]); omega) _)) f14 z14 | go_keep)
  clear f14 z14
  have l20 : w.heap.size < w4.heap.size := World.block_lt_of_cell? _ _ f16
  have hZ4 := hT4.size
  have ls4 := hS4.lt
  go_wp2
  refine bodyPost_ret (v := .agg #[.int .i64 x1, .int .i64 y1, .int .i64 x2, .int .i64 y2]) (by simp [results, Try.results109, go_sem, f16, f17, f18, f19, z16, z17, z18, z19]) rfl ⟨x1, y1, x2, y2, rfl, (by repeat (first | with_reducible exact hS4 | with_reducible refine Src.alloc ?_ _ | with_reducible refine Src.set ?_ (by omega) (by omega) | with_reducible refine Src.drewN ?_ _ | with_reducible refine Src.drew ?_)), (by repeat (first | with_reducible exact hT4 | with_reducible exact Gs.refl _ _ | with_reducible refine Gs.alloc ?_ _ | with_reducible refine Gs.set_new ?_ (by omega) | with_reducible refine Gs.drewN ?_ _ | with_reducible refine Gs.drew ?_))⟩
set_option maxHeartbeats 8000000 in
theorem dTime_any (s : Nat) (w : World) (h : Src w s) : Calls Try.prog 110 #[.pointer (some ⟨s, 0, none⟩)] w (NumPost s w) := by
  go_enter Try.func110, Try.ntmps110
  have ls0 : s < w.heap.size := h.lt
  go_wp2_with fail
  refine (next_any s _ _ (by repeat (first | with_reducible exact h | with_reducible refine Src.alloc ?_ _ | with_reducible refine Src.set ?_ (by omega) (by omega) | with_reducible refine Src.drewN ?_ _ | with_reducible refine Src.drew ?_))).mono ?_
  rintro en w1 ⟨x1, rfl, a1, b1, hS1, hg1⟩
  have hT1 : Gs s w w1 := Gs.trans (by repeat (first | with_reducible exact Gs.refl _ _ | with_reducible exact Gs.refl _ _ | with_reducible refine Gs.alloc ?_ _ | with_reducible refine Gs.set_new ?_ (by omega) | with_reducible refine Gs.drewN ?_ _ | with_reducible refine Gs.drew ?_)) hg1
  have hZ1 := hT1.size
  have ls1 := hS1.lt
  clear a1 b1
  by_cases e0 : x1 = 0
  · have e1 : (x1 == 0) = true := by simpa using e0
    clear e0
    go_wp2_with fail
    refine (pick_any s _ 3 3 [(-1), 1000, 1001] _ (by repeat (first | with_reducible exact hS1 | with_reducible refine Src.alloc ?_ _ | with_reducible refine Src.set ?_ (by omega) (by omega) | with_reducible refine Src.drewN ?_ _ | with_reducible refine Src.drew ?_)) rfl (by decide) (by decide) (Rd.new2 _ _ [(-1), 1000, 1001] (by first | (simp only [World.size_alloc]; done) | (go_size; done))) (fun b off e => by cases e; omega)).mono ?_
    rintro en w2 ⟨y, rfl, hy, hS2, hg2⟩
    have hT2 : Gs s w w2 := Gs.trans (by repeat (first | with_reducible exact hT1 | with_reducible exact Gs.refl _ _ | with_reducible refine Gs.alloc ?_ _ | with_reducible refine Gs.set_new ?_ (by omega) | with_reducible refine Gs.drewN ?_ _ | with_reducible refine Gs.drew ?_)) hg2
    have hZ2 := hT2.size
    have ls2 := hS2.lt
    clear hy
    go_wp2
    refine bodyPost_ret (v := .int .i64 y) (by simp [results, Try.results110, go_sem, ]) rfl ⟨y, rfl, (by repeat (first | with_reducible exact hS2 | with_reducible refine Src.alloc ?_ _ | with_reducible refine Src.set ?_ (by omega) (by omega) | with_reducible refine Src.drewN ?_ _ | with_reducible refine Src.drew ?_)), (by repeat (first | with_reducible exact hT2 | with_reducible exact Gs.refl _ _ | with_reducible refine Gs.alloc ?_ _ | with_reducible refine Gs.set_new ?_ (by omega) | with_reducible refine Gs.drewN ?_ _ | with_reducible refine Gs.drew ?_))⟩
  · have e1 : (x1 == 0) = false := by simpa using e0
    clear e0
    go_wp2_with fail
    refine (next_any s _ _ (by repeat (first | with_reducible exact hS1 | with_reducible refine Src.alloc ?_ _ | with_reducible refine Src.set ?_ (by omega) (by omega) | with_reducible refine Src.drewN ?_ _ | with_reducible refine Src.drew ?_))).mono ?_
    rintro en w2 ⟨y, rfl, hy, hz, hS2, hg2⟩
    have hT2 : Gs s w w2 := Gs.trans (by repeat (first | with_reducible exact hT1 | with_reducible exact Gs.refl _ _ | with_reducible refine Gs.alloc ?_ _ | with_reducible refine Gs.set_new ?_ (by omega) | with_reducible refine Gs.drewN ?_ _ | with_reducible refine Gs.drew ?_)) hg2
    have hZ2 := hT2.size
    have ls2 := hS2.lt
    clear hy hz
    go_wp2
    refine bodyPost_ret (v := .int .i64 y) (by simp [results, Try.results110, go_sem, ]) rfl ⟨y, rfl, (by repeat (first | with_reducible exact hS2 | with_reducible refine Src.alloc ?_ _ | with_reducible refine Src.set ?_ (by omega) (by omega) | with_reducible refine Src.drewN ?_ _ | with_reducible refine Src.drew ?_)), (by repeat (first | with_reducible exact hT2 | with_reducible exact Gs.refl _ _ | with_reducible refine Gs.alloc ?_ _ | with_reducible refine Gs.set_new ?_ (by omega) | with_reducible refine Gs.drewN ?_ _ | with_reducible refine Gs.drew ?_))⟩
end Go.Proofs.Ytoccglmlpobeeaa
