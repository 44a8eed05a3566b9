/- walks: what is drawn -/
import Derived.Test.YtoccglmlpobeeaaSrcW
import Derived.Test.YtoccglmlpobeeaaW6
set_option linter.unusedVariables false
set_option linter.unusedSimpArgs false
namespace Go.Proofs.Ytoccglmlpobeeaa
open Go.RowKit
def PtPost (s : Nat) (w : World) (en : Ending) (w9 : World) : Prop := ∃ x y : Int, en = .returned (.agg #[.int .i64 x, .int .i64 y]) ∧ Src w9 s ∧ Gs s w w9
def TrPost (s : Nat) (w : World) (en : Ending) (w9 : World) : Prop := ∃ p q r z : Int, en = .returned (.agg #[.int .i64 p, .int .i64 q, .int .i64 r, .int .i64 z]) ∧ Src w9 s ∧ Gs s w w9
def NumPost (s : Nat) (w : World) (en : Ending) (w9 : World) : Prop := ∃ x : Int, en = .returned (.int .i64 x) ∧ Src w9 s ∧ Gs s w w9
set_option maxHeartbeats 8000000 in
theorem dPoint_any (s : Nat) (a b : Int) (w : World) (h : Src w s) : Calls Try.prog 105 #[.pointer (some ⟨s, 0, none⟩), .int .i64 a, .int .i64 b] w (PtPost s w) := by
  go_enter Try.func105, Try.ntmps105
  have ls0 : s < w.heap.size := h.lt
  go_wp2_with fail
  refine (next_any s _ _ (by repeat (first | with_reducible exact h | with_reducible refine Src.alloc ?_ _ | with_reducible refine Src.set ?_ (by omega) (by omega) | with_reducible refine Src.drewN ?_ _ | with_reducible refine Src.drew ?_))).mono ?_
  rintro en w1 ⟨x1, rfl, a1, b1, hS1, hg1⟩
  have hT1 : Gs s w w1 := Gs.trans (by repeat (first | with_reducible exact Gs.refl _ _ | with_reducible exact Gs.refl _ _ | with_reducible refine Gs.alloc ?_ _ | with_reducible refine Gs.set_new ?_ (by omega) | with_reducible refine Gs.drewN ?_ _ | with_reducible refine Gs.drew ?_)) hg1
  have f1 : w1.cell? ⟨w.heap.size, 0, none⟩ = some (.int .i64 0) := hg1.cell2 (by first | (go_simp; done) | go_keep) (by (try dsimp only); omega)
  have z1 : w1.frozen? ⟨w.heap.size, 0, none⟩ = false := hg1.frozen2 (v := .int .i64 0) (by first | (go_simp; done) | go_keep) (by (try dsimp only); omega) (by first | (go_simp; done) | go_keep)
  have f2 : w1.cell? ⟨w.heap.size, 1, none⟩ = some (.int .i64 0) := hg1.cell2 (by first | (go_simp; done) | go_keep) (by (try dsimp only); omega)
  have z2 : w1.frozen? ⟨w.heap.size, 1, none⟩ = false := hg1.frozen2 (v := .int .i64 0) (by first | (go_simp; done) | go_keep) (by (try dsimp only); omega) (by first | (go_simp; done) | go_keep)
  have l3 : w.heap.size < w1.heap.size := World.block_lt_of_cell? _ _ f1
  have hZ1 := hT1.size
  have ls1 := hS1.lt
  go_wp2_with fail
  refine (next_any s _ _ (by repeat (first | with_reducible exact hS1 | with_reducible refine Src.alloc ?_ _ | with_reducible refine Src.set ?_ (by omega) (by omega) | with_reducible refine Src.drewN ?_ _ | with_reducible refine Src.drew ?_))).mono ?_
  rintro en w2 ⟨x2, rfl, a2, b2, hS2, hg2⟩
  have hT2 : Gs s w w2 := Gs.trans (by repeat (first | with_reducible exact hT1 | with_reducible exact Gs.refl _ _ | with_reducible refine Gs.alloc ?_ _ | with_reducible refine Gs.set_new ?_ (by omega) | with_reducible refine Gs.drewN ?_ _ | with_reducible refine Gs.drew ?_)) hg2
  have f4 : w2.cell? ⟨w.heap.size, 0, none⟩ = some (.int .i64 0) := hg2.cell2 (by first | (go_simp; done) | exact later (by repeat (first | exact Below.refl _ _ | refine Below.alloc ?_ (by (try simp only [World.size_alloc]); omega) _)) f1 | go_keep) (by (try dsimp only); omega)
  have z4 : w2.frozen? ⟨w.heap.size, 0, none⟩ = false := hg2.frozen2 (v := .int .i64 0) (by first | (go_simp; done) | exact later (by repeat (first | exact Below.refl _ _ | refine Below.alloc ?_ (by (try simp only [World.size_alloc]); omega) _)) f1 | go_keep) (by (try dsimp only); omega) (by first | (go_simp; done) | exact laterF (by repeat (first | exact Below.refl _ _ | refine Below.alloc ?_ (by (try simp only [World.size_alloc]); omega) _)) f1 z1 | go_keep)
  clear f1 z1
  have f5 : w2.cell? ⟨w.heap.size, 1, none⟩ = some (.int .i64 0) := hg2.cell2 (by first | (go_simp; done) | exact later (by repeat (first | exact Below.refl _ _ | refine Below.alloc ?_ (by (try simp only [World.size_alloc]); omega) _)) f2 | go_keep) (by (try dsimp only); omega)
  have z5 : w2.frozen? ⟨w.heap.size, 1, none⟩ = false := hg2.frozen2 (v := .int .i64 0) (by first | (go_simp; done) | exact later (by repeat (first | exact Below.refl _ _ | refine Below.alloc ?_ (by (try simp only [World.size_alloc]); omega) _)) f2 | go_keep) (by (try dsimp only); omega) (by first | (go_simp; done) | exact laterF (by repeat (first | exact Below.refl _ _ | refine Below.alloc ?_ (by (try simp only [World.size_alloc]); omega) _)) f2 z2 | go_keep)
  clear f2 z2
  have l6 : w.heap.size < w2.heap.size := World.block_lt_of_cell? _ _ f4
  have hZ2 := hT2.size
  have ls2 := hS2.lt
  go_wp2_with fail
  refine (next_any s _ _ (by repeat (first | with_reducible exact hS2 | with_reducible refine Src.alloc ?_ _ | with_reducible refine Src.set ?_ (by omega) (by omega) | with_reducible refine Src.drewN ?_ _ | with_reducible refine Src.drew ?_))).mono ?_
  rintro en w3 ⟨x3, rfl, a3, b3, hS3, hg3⟩
  have hT3 : Gs s w w3 := Gs.trans (by repeat (first | with_reducible exact hT2 | with_reducible exact Gs.refl _ _ | with_reducible refine Gs.alloc ?_ _ | with_reducible refine Gs.set_new ?_ (by omega) | with_reducible refine Gs.drewN ?_ _ | with_reducible refine Gs.drew ?_)) hg3
  have f7 : w3.cell? ⟨w.heap.size, 0, none⟩ = some (.int .i64 0) := hg3.cell2 (by first | (go_simp; done) | exact later (by repeat (first | exact Below.refl _ _ | refine Below.alloc ?_ (by (try simp only [World.size_alloc]); omega) _)) f4 | go_keep) (by (try dsimp only); omega)
  have z7 : w3.frozen? ⟨w.heap.size, 0, none⟩ = false := hg3.frozen2 (v := .int .i64 0) (by first | (go_simp; done) | exact later (by repeat (first | exact Below.refl _ _ | refine Below.alloc ?_ (by (try simp only [World.size_alloc]); omega) _)) f4 | go_keep) (by (try dsimp only); omega) (by first | (go_simp; done) | exact laterF (by repeat (first | exact Below.refl _ _ | refine Below.alloc ?_ (by (try simp only [World.size_alloc]); omega) _)) f4 z4 | go_keep)
  clear f4 z4
  have f8 : w3.cell? ⟨w.heap.size, 1, none⟩ = some (.int .i64 0) := hg3.cell2 (by first | (go_simp; done) | exact later (by repeat (first | exact Below.refl _ _ | refine Below.alloc ?_ (by (try simp only [World.size_alloc]); omega) _)) f5 | go_keep) (by (try dsimp only); omega)
  have z8 : w3.frozen? ⟨w.heap.size, 1, none⟩ = false := hg3.frozen2 (v := .int .i64 0) (by first | (go_simp; done) | exact later (by repeat (first | exact Below.refl _ _ | refine Below.alloc ?_ (by (try simp only [World.size_alloc]); omega) _)) f5 | go_keep) (by (try dsimp only); omega) (by first | (go_simp; done) | exact laterF (by repeat (first | exact Below.refl _ _ | refine Below.alloc ?_ (by (try simp only [World.size_alloc]); omega) _)) f5 z5 | go_keep)
  clear f5 z5
  obtain ⟨v1, f9⟩ : ∃ v1 : Int, w3.cell? ⟨w2.heap.size, 0, none⟩ = some (.int .i64 v1) := ⟨_, hg3.cell2 (by first | exact World.cell?_alloc_new _ _ _ | exact World.cell?_alloc_new _ _ _ _) (by (try dsimp only); omega)⟩
  have z9 : w3.frozen? ⟨w2.heap.size, 0, none⟩ = false := hg3.frozen2 (v := .int .i64 _) (by first | exact World.cell?_alloc_new _ _ _ | exact World.cell?_alloc_new _ _ _ _) (by (try dsimp only); omega) (by first | exact World.frozen?_alloc_new _ _ _ _ | go_simp)
  obtain ⟨v2, f10⟩ : ∃ v2 : Int, w3.cell? ⟨w2.heap.size, 1, none⟩ = some (.int .i64 v2) := ⟨_, hg3.cell2 (by first | exact World.cell?_alloc_new _ _ _ | exact World.cell?_alloc_new _ _ _ _) (by (try dsimp only); omega)⟩
  have z10 : w3.frozen? ⟨w2.heap.size, 1, none⟩ = false := hg3.frozen2 (v := .int .i64 _) (by first | exact World.cell?_alloc_new _ _ _ | exact World.cell?_alloc_new _ _ _ _) (by (try dsimp only); omega) (by first | exact World.frozen?_alloc_new _ _ _ _ | go_simp)
  have l11 : w.heap.size < w3.heap.size := World.block_lt_of_cell? _ _ f7
  have l12 : w2.heap.size < w3.heap.size := World.block_lt_of_cell? _ _ f9
  have hZ3 := hT3.size
  have ls3 := hS3.lt
  clear a1 b1 a2 b2
  by_cases e0 : x3 = 0
  · have e1 : (x3 == 0) = true := by simpa using e0
    clear e0 a3 b3
    go_wp2_with fail
    refine (pick_any s _ 4 4 [_, _, _, _] _ (by repeat (first | with_reducible exact hS3 | with_reducible refine Src.alloc ?_ _ | with_reducible refine Src.set ?_ (by omega) (by omega) | with_reducible refine Src.drewN ?_ _ | with_reducible refine Src.drew ?_)) rfl (by decide) (by decide) (Rd.new _ _ [_, _, _, _]) (fun b off e => by cases e; omega)).mono ?_
    rintro en w4 ⟨y, rfl, hy, hS4, hg4⟩
    have hT4 : Gs s w w4 := Gs.trans (by repeat (first | with_reducible exact hT3 | with_reducible exact Gs.refl _ _ | with_reducible refine Gs.alloc ?_ _ | with_reducible refine Gs.set_new ?_ (by omega) | with_reducible refine Gs.drewN ?_ _ | with_reducible refine Gs.drew ?_)) hg4
    have f13 : w4.cell? ⟨w.heap.size, 0, none⟩ = some (.int .i64 0) := hg4.cell2 (by first | (go_simp; done) | exact later (by repeat (first | exact Below.refl _ _ | refine Below.alloc ?_ (by (try simp only [World.size_alloc]); omega) _)) f7 | go_keep) (by (try dsimp only); omega)
    have z13 : w4.frozen? ⟨w.heap.size, 0, none⟩ = false := hg4.frozen2 (v := .int .i64 0) (by first | (go_simp; done) | exact later (by repeat (first | exact Below.refl _ _ | refine Below.alloc ?_ (by (try simp only [World.size_alloc]); omega) _)) f7 | go_keep) (by (try dsimp only); omega) (by first | (go_simp; done) | exact laterF (by repeat (first | exact Below.refl _ _ | refine Below.alloc ?_ (by (try simp only [World.size_alloc]); omega) _)) f7 z7 | go_keep)
    clear f7 z7
    have f14 : w4.cell? ⟨w.heap.size, 1, none⟩ = some (.int .i64 0) := hg4.cell2 (by first | (go_simp; done) | exact later (by repeat (first | exact Below.refl _ _ | refine Below.alloc ?_ (by (try simp only [World.size_alloc]); omega) _)) f8 | go_keep) (by (try dsimp only); omega)
    have z14 : w4.frozen? ⟨w.heap.size, 1, none⟩ = false := hg4.frozen2 (v := .int .i64 0) (by first | (go_simp; done) | exact later (by repeat (first | exact Below.refl _ _ | refine Below.alloc ?_ (by (try simp only [World.size_alloc]); omega) _)) f8 | go_keep) (by (try dsimp only); omega) (by first | (go_simp; done) | exact laterF (by repeat (first | exact Below.refl _ _ | refine Below.alloc ?_ (by (try simp only [World.size_alloc]); omega) _)) f8 z8 | go_keep)
    clear f8 z8
    have f15 : w4.cell? ⟨w2.heap.size, 0, none⟩ = some (.int .i64 v1) := hg4.cell2 (by first | (go_simp; done) | exact later (by repeat (first | exact Below.refl _ _ | refine Below.alloc ?_ (by (try simp only [World.size_alloc]); omega) _)) f9 | go_keep) (by (try dsimp only); omega)
    have z15 : w4.frozen? ⟨w2.heap.size, 0, none⟩ = false := hg4.frozen2 (v := .int .i64 v1) (by first | (go_simp; done) | exact later (by repeat (first | exact Below.refl _ _ | refine Below.alloc ?_ (by (try simp only [World.size_alloc]); omega) _)) f9 | go_keep) (by (try dsimp only); omega) (by first | (go_simp; done) | exact laterF (by repeat (first | exact Below.refl _ _ | refine Below.alloc ?_ (by (try simp only [World.size_alloc]); omega) _)) f9 z9 | go_keep)
    clear f9 z9
    have f16 : w4.cell? ⟨w2.heap.size, 1, none⟩ = some (.int .i64 v2) := hg4.cell2 (by first | (go_simp; done) | exact later (by repeat (first | exact Below.refl _ _ | refine Below.alloc ?_ (by (try simp only [World.size_alloc]); omega) _)) f10 | go_keep) (by (try dsimp only); omega)
    have z16 : w4.frozen? ⟨w2.heap.size, 1, none⟩ = false := hg4.frozen2 (v := .int .i64 v2) (by first | (go_simp; done) | exact later (by repeat (first | exact Below.refl _ _ | refine Below.alloc ?_ (by (try simp only [World.size_alloc]); omega) _)) f10 | go_keep) (by (try dsimp only); omega) (by first | (go_simp; done) | exact laterF (by repeat (first | exact Below.refl _ _ | refine Below.alloc ?_ (by (try simp only [World.size_alloc]); omega) _)) f10 z10 | go_keep)
    clear f10 z10
    have l17 : w.heap.size < w4.heap.size := World.block_lt_of_cell? _ _ f13
    have l18 : w2.heap.size < w4.heap.size := World.block_lt_of_cell? _ _ f15
    have hZ4 := hT4.size
    have ls4 := hS4.lt
    clear hy
    have n19 : ¬ w.heap.size = w2.heap.size := (by omega)
    have n20 : ¬ w2.heap.size = w.heap.size := (by omega)
    go_wp2
    refine bodyPost_ret (v := .agg #[.int .i64 y, .int .i64 v2]) (by simp [results, Try.results105, go_sem, f13, f14, f15, f16, z13, z14, z15, z16, n19, n20]) rfl ⟨y, v2, rfl, (by repeat (first | with_reducible exact hS4 | with_reducible refine Src.alloc ?_ _ | with_reducible refine Src.set ?_ (by omega) (by omega) | with_reducible refine Src.drewN ?_ _ | with_reducible refine Src.drew ?_)), (by repeat (first | with_reducible exact hT4 | with_reducible exact Gs.refl _ _ | with_reducible refine Gs.alloc ?_ _ | with_reducible refine Gs.set_new ?_ (by omega) | with_reducible refine Gs.drewN ?_ _ | with_reducible refine Gs.drew ?_))⟩
  · have e1 : (x3 == 0) = false := by simpa using e0
    clear e0 a3 b3
    have n13 : ¬ w.heap.size = w2.heap.size := (by omega)
    have n14 : ¬ w2.heap.size = w.heap.size := (by omega)
    go_wp2
    refine bodyPost_ret (v := .agg #[.int .i64 v1, .int .i64 v2]) (by simp [results, Try.results105, go_sem, f7, f8, f9, f10, z7, z8, z9, z10, n13, n14]) rfl ⟨v1, v2, rfl, (by repeat (first | with_reducible exact hS3 | with_reducible refine Src.alloc ?_ _ | with_reducible refine Src.set ?_ (by omega) (by omega) | with_reducible refine Src.drewN ?_ _ | with_reducible refine Src.drew ?_)), (by repeat (first | with_reducible exact hT3 | with_reducible exact Gs.refl _ _ | with_reducible refine Gs.alloc ?_ _ | with_reducible refine Gs.set_new ?_ (by omega) | with_reducible refine Gs.drewN ?_ _ | with_reducible refine Gs.drew ?_))⟩
end Go.Proofs.Ytoccglmlpobeeaa
