/- walks: what the laws draw -/
import Derived.Test.YtoccglmlpobeeaaDrW4
set_option linter.unusedVariables false
set_option linter.unusedSimpArgs false
namespace Go.Proofs.Ytoccglmlpobeeaa
open Go.RowKit
def PosPost (w : World) (en : Ending) (w9 : World) : Prop := ∃ p1 q1 r1 t1 x : Int, en = .returned (.tuple #[.agg #[.int .i64 p1, .int .i64 q1, .int .i64 r1, .int .i64 t1], .int .i64 x]) ∧ Below w.heap.size w w9
set_option maxHeartbeats 8000000 in
theorem dPos_any (A : Option Addr) (n c : Nat) (w : World) (hr : RdB w A n) (hm : n ≤ 4096) : Calls Try.prog 65 #[.slice A n c] w (PosPost w) := by
  go_enter Try.func65, Try.ntmps65
  go_wp2_with fail
  refine (from_any A n c _ (RdB.below hr (by repeat (first | with_reducible exact Below.refl _ _ | with_reducible exact Below.refl _ _ | with_reducible refine Below.alloc ?_ (by (try simp only [World.size_alloc, World.size_drew, size_drewN, World.size_setCell]); omega) _ | with_reducible refine Below.setCell ?_ (by (try dsimp only); omega) _ | with_reducible refine below_drewN ?_ _ | with_reducible refine Below.drew ?_))) hm).mono ?_
  rintro en w1 ⟨s, rfl, hs1, hS1, hb1⟩
  (try simp only [World.size_alloc, World.size_drew, size_drewN, World.size_setCell] at hs1)
  have hT1 : Below w.heap.size w w1 := Below.trans (by repeat (first | with_reducible exact Below.refl _ _ | with_reducible exact Below.refl _ _ | with_reducible refine Below.alloc ?_ (by (try simp only [World.size_alloc, World.size_drew, size_drewN, World.size_setCell]); omega) _ | with_reducible refine Below.setCell ?_ (by (try dsimp only); omega) _ | with_reducible refine below_drewN ?_ _ | with_reducible refine Below.drew ?_)) (hb1.mono (by (try simp only [World.size_alloc, World.size_drew, size_drewN, World.size_setCell]); omega))
  have f1 : w1.cell? ⟨w.heap.size, 0, none⟩ = some (.int .i64 0) := later hb1 (by first | go_simp | go_keep)
  have z1 : w1.frozen? ⟨w.heap.size, 0, none⟩ = false := laterF (v := .int .i64 0) hb1 (by first | go_simp | go_keep) (by first | go_simp | go_keep)
  have f2 : w1.cell? ⟨w.heap.size, 1, none⟩ = some (.int .i64 0) := later hb1 (by first | go_simp | go_keep)
  have z2 : w1.frozen? ⟨w.heap.size, 1, none⟩ = false := laterF (v := .int .i64 0) hb1 (by first | go_simp | go_keep) (by first | go_simp | go_keep)
  have f3 : w1.cell? ⟨w.heap.size, 2, none⟩ = some (.int .i64 0) := later hb1 (by first | go_simp | go_keep)
  have z3 : w1.frozen? ⟨w.heap.size, 2, none⟩ = false := laterF (v := .int .i64 0) hb1 (by first | go_simp | go_keep) (by first | go_simp | go_keep)
  have f4 : w1.cell? ⟨w.heap.size, 3, none⟩ = some (.int .i64 0) := later hb1 (by first | go_simp | go_keep)
  have z4 : w1.frozen? ⟨w.heap.size, 3, none⟩ = false := laterF (v := .int .i64 0) hb1 (by first | go_simp | go_keep) (by first | go_simp | go_keep)
  have l5 : w.heap.size < w1.heap.size := World.block_lt_of_cell? _ _ f1
  have hZ1 := hT1.size
  have ls1 := hS1.lt
  go_wp2_with fail
  refine (dTrack_any s _ (by repeat (first | with_reducible exact hS1 | with_reducible refine Src.alloc ?_ _ | with_reducible refine Src.set ?_ (by omega) (by omega) | with_reducible refine Src.drewN ?_ _ | with_reducible refine Src.drew ?_))).mono ?_
  rintro en w2 ⟨p1, q1, r1, t1, rfl, hS2, hg2⟩
  have hT2 : Below w.heap.size w w2 := Below.trans (by repeat (first | with_reducible exact hT1 | with_reducible exact Below.refl _ _ | with_reducible refine Below.alloc ?_ (by (try simp only [World.size_alloc, World.size_drew, size_drewN, World.size_setCell]); omega) _ | with_reducible refine Below.setCell ?_ (by (try dsimp only); omega) _ | with_reducible refine below_drewN ?_ _ | with_reducible refine Below.drew ?_)) (hg2.to_below (by omega) (by (try simp only [World.size_alloc, World.size_drew, size_drewN, World.size_setCell]); omega))
  have f6 : w2.cell? ⟨w.heap.size, 0, none⟩ = some (.int .i64 0) := hg2.cell2 (by first | (go_simp; done) | exact later (by repeat (first | exact Below.refl _ _ | refine Below.alloc ?_ (by (try simp only [World.size_alloc]); omega) _)) f1 | go_keep) (by (try dsimp only); omega)
  have z6 : w2.frozen? ⟨w.heap.size, 0, none⟩ = false := hg2.frozen2 (v := .int .i64 0) (by first | (go_simp; done) | exact later (by repeat (first | exact Below.refl _ _ | refine Below.alloc ?_ (by (try simp only [World.size_alloc]); omega) _)) f1 | go_keep) (by (try dsimp only); omega) (by first | (go_simp; done) | exact laterF (by repeat (first | exact Below.refl _ _ | refine Below.alloc ?_ (by (try simp only [World.size_alloc]); omega) _)) f1 z1 | go_keep)
  clear f1 z1
  have f7 : w2.cell? ⟨w.heap.size, 1, none⟩ = some (.int .i64 0) := hg2.cell2 (by first | (go_simp; done) | exact later (by repeat (first | exact Below.refl _ _ | refine Below.alloc ?_ (by (try simp only [World.size_alloc]); omega) _)) f2 | go_keep) (by (try dsimp only); omega)
  have z7 : w2.frozen? ⟨w.heap.size, 1, none⟩ = false := hg2.frozen2 (v := .int .i64 0) (by first | (go_simp; done) | exact later (by repeat (first | exact Below.refl _ _ | refine Below.alloc ?_ (by (try simp only [World.size_alloc]); omega) _)) f2 | go_keep) (by (try dsimp only); omega) (by first | (go_simp; done) | exact laterF (by repeat (first | exact Below.refl _ _ | refine Below.alloc ?_ (by (try simp only [World.size_alloc]); omega) _)) f2 z2 | go_keep)
  clear f2 z2
  have f8 : w2.cell? ⟨w.heap.size, 2, none⟩ = some (.int .i64 0) := hg2.cell2 (by first | (go_simp; done) | exact later (by repeat (first | exact Below.refl _ _ | refine Below.alloc ?_ (by (try simp only [World.size_alloc]); omega) _)) f3 | go_keep) (by (try dsimp only); omega)
  have z8 : w2.frozen? ⟨w.heap.size, 2, none⟩ = false := hg2.frozen2 (v := .int .i64 0) (by first | (go_simp; done) | exact later (by repeat (first | exact Below.refl _ _ | refine Below.alloc ?_ (by (try simp only [World.size_alloc]); omega) _)) f3 | go_keep) (by (try dsimp only); omega) (by first | (go_simp; done) | exact laterF (by repeat (first | exact Below.refl _ _ | refine Below.alloc ?_ (by (try simp only [World.size_alloc]); omega) _)) f3 z3 | go_keep)
  clear f3 z3
  have f9 : w2.cell? ⟨w.heap.size, 3, none⟩ = some (.int .i64 0) := hg2.cell2 (by first | (go_simp; done) | exact later (by repeat (first | exact Below.refl _ _ | refine Below.alloc ?_ (by (try simp only [World.size_alloc]); omega) _)) f4 | go_keep) (by (try dsimp only); omega)
  have z9 : w2.frozen? ⟨w.heap.size, 3, none⟩ = false := hg2.frozen2 (v := .int .i64 0) (by first | (go_simp; done) | exact later (by repeat (first | exact Below.refl _ _ | refine Below.alloc ?_ (by (try simp only [World.size_alloc]); omega) _)) f4 | go_keep) (by (try dsimp only); omega) (by first | (go_simp; done) | exact laterF (by repeat (first | exact Below.refl _ _ | refine Below.alloc ?_ (by (try simp only [World.size_alloc]); omega) _)) f4 z4 | go_keep)
  clear f4 z4
  have l10 : w.heap.size < w2.heap.size := World.block_lt_of_cell? _ _ f6
  have hZ2 := hT2.size
  have ls2 := hS2.lt
  go_wp2_with fail
  refine (dTime_any s _ (by repeat (first | with_reducible exact hS2 | with_reducible refine Src.alloc ?_ _ | with_reducible refine Src.set ?_ (by omega) (by omega) | with_reducible refine Src.drewN ?_ _ | with_reducible refine Src.drew ?_))).mono ?_
  rintro en w3 ⟨x, rfl, hS3, hg3⟩
  have hT3 : Below w.heap.size w w3 := Below.trans (by repeat (first | with_reducible exact hT2 | with_reducible exact Below.refl _ _ | with_reducible refine Below.alloc ?_ (by (try simp only [World.size_alloc, World.size_drew, size_drewN, World.size_setCell]); omega) _ | with_reducible refine Below.setCell ?_ (by (try dsimp only); omega) _ | with_reducible refine below_drewN ?_ _ | with_reducible refine Below.drew ?_)) (hg3.to_below (by omega) (by (try simp only [World.size_alloc, World.size_drew, size_drewN, World.size_setCell]); omega))
  have f11 : w3.cell? ⟨w.heap.size, 0, none⟩ = some (.int .i64 0) := hg3.cell2 (by first | (go_simp; done) | exact later (by repeat (first | exact Below.refl _ _ | refine Below.alloc ?_ (by (try simp only [World.size_alloc]); omega) _)) f6 | go_keep) (by (try dsimp only); omega)
  have z11 : w3.frozen? ⟨w.heap.size, 0, none⟩ = false := hg3.frozen2 (v := .int .i64 0) (by first | (go_simp; done) | exact later (by repeat (first | exact Below.refl _ _ | refine Below.alloc ?_ (by (try simp only [World.size_alloc]); omega) _)) f6 | go_keep) (by (try dsimp only); omega) (by first | (go_simp; done) | exact laterF (by repeat (first | exact Below.refl _ _ | refine Below.alloc ?_ (by (try simp only [World.size_alloc]); omega) _)) f6 z6 | go_keep)
  clear f6 z6
  have f12 : w3.cell? ⟨w.heap.size, 1, none⟩ = some (.int .i64 0) := hg3.cell2 (by first | (go_simp; done) | exact later (by repeat (first | exact Below.refl _ _ | refine Below.alloc ?_ (by (try simp only [World.size_alloc]); omega) _)) f7 | go_keep) (by (try dsimp only); omega)
  have z12 : w3.frozen? ⟨w.heap.size, 1, none⟩ = false := hg3.frozen2 (v := .int .i64 0) (by first | (go_simp; done) | exact later (by repeat (first | exact Below.refl _ _ | refine Below.alloc ?_ (by (try simp only [World.size_alloc]); omega) _)) f7 | go_keep) (by (try dsimp only); omega) (by first | (go_simp; done) | exact laterF (by repeat (first | exact Below.refl _ _ | refine Below.alloc ?_ (by (try simp only [World.size_alloc]); omega) _)) f7 z7 | go_keep)
  clear f7 z7
  have f13 : w3.cell? ⟨w.heap.size, 2, none⟩ = some (.int .i64 0) := hg3.cell2 (by first | (go_simp; done) | exact later (by repeat (first | exact Below.refl _ _ | refine Below.alloc ?_ (by (try simp only [World.size_alloc]); omega) _)) f8 | go_keep) (by (try dsimp only); omega)
  have z13 : w3.frozen? ⟨w.heap.size, 2, none⟩ = false := hg3.frozen2 (v := .int .i64 0) (by first | (go_simp; done) | exact later (by repeat (first | exact Below.refl _ _ | refine Below.alloc ?_ (by (try simp only [World.size_alloc]); omega) _)) f8 | go_keep) (by (try dsimp only); omega) (by first | (go_simp; done) | exact laterF (by repeat (first | exact Below.refl _ _ | refine Below.alloc ?_ (by (try simp only [World.size_alloc]); omega) _)) f8 z8 | go_keep)
  clear f8 z8
  have f14 : w3.cell? ⟨w.heap.size, 3, none⟩ = some (.int .i64 0) := hg3.cell2 (by first | (go_simp; done) | exact later (by repeat (first | exact Below.refl _ _ | refine Below.alloc ?_ (by (try simp only [World.size_alloc]); omega) _)) f9 | go_keep) (by (try dsimp only); omega)
  have z14 : w3.frozen? ⟨w.heap.size, 3, none⟩ = false := hg3.frozen2 (v := .int .i64 0) (by first | (go_simp; done) | exact later (by repeat (first | exact Below.refl _ _ | refine Below.alloc ?_ (by (try simp only [World.size_alloc]); omega) _)) f9 | go_keep) (by (try dsimp only); omega) (by first | (go_simp; done) | exact laterF (by repeat (first | exact Below.refl _ _ | refine Below.alloc ?_ (by (try simp only [World.size_alloc]); omega) _)) f9 z9 | go_keep)
  clear f9 z9
  have l15 : w.heap.size < w3.heap.size := World.block_lt_of_cell? _ _ f11
  have hZ3 := hT3.size
  have ls3 := hS3.lt
  go_wp2
  refine bodyPost_ret (v := .tuple #[.agg #[.int .i64 p1, .int .i64 q1, .int .i64 r1, .int .i64 t1], .int .i64 x]) (by simp [results, Try.results65, go_sem, f11, f12, f13, f14, z11, z12, z13, z14]) rfl ⟨p1, q1, r1, t1, x, rfl, (by repeat (first | with_reducible exact hT3 | with_reducible exact Below.refl _ _ | with_reducible refine Below.alloc ?_ (by (try simp only [World.size_alloc, World.size_drew, size_drewN, World.size_setCell]); omega) _ | with_reducible refine Below.setCell ?_ (by (try dsimp only); omega) _ | with_reducible refine below_drewN ?_ _ | with_reducible refine Below.drew ?_))⟩
def CsqPost (w : World) (en : Ending) (w9 : World) : Prop := ∃ p1 q1 r1 t1 p2 q2 r2 t2 : Int, en = .returned (.tuple #[.agg #[.int .i64 p1, .int .i64 q1, .int .i64 r1, .int .i64 t1], .agg #[.int .i64 p2, .int .i64 q2, .int .i64 r2, .int .i64 t2]]) ∧ Below w.heap.size w w9
set_option maxHeartbeats 8000000 in
theorem dCsq_any (A : Option Addr) (n c : Nat) (w : World) (hr : RdB w A n) (hm : n ≤ 4096) : Calls Try.prog 68 #[.slice A n c] w (CsqPost w) := by
  go_enter Try.func68, Try.ntmps68
  go_wp2_with fail
  refine (from_any A n c _ (RdB.below hr (by repeat (first | with_reducible exact Below.refl _ _ | with_reducible exact Below.refl _ _ | with_reducible refine Below.alloc ?_ (by (try simp only [World.size_alloc, World.size_drew, size_drewN, World.size_setCell]); omega) _ | with_reducible refine Below.setCell ?_ (by (try dsimp only); omega) _ | with_reducible refine below_drewN ?_ _ | with_reducible refine Below.drew ?_))) hm).mono ?_
  rintro en w1 ⟨s, rfl, hs1, hS1, hb1⟩
  (try simp only [World.size_alloc, World.size_drew, size_drewN, World.size_setCell] at hs1)
  have hT1 : Below w.heap.size w w1 := Below.trans (by repeat (first | with_reducible exact Below.refl _ _ | with_reducible exact Below.refl _ _ | with_reducible refine Below.alloc ?_ (by (try simp only [World.size_alloc, World.size_drew, size_drewN, World.size_setCell]); omega) _ | with_reducible refine Below.setCell ?_ (by (try dsimp only); omega) _ | with_reducible refine below_drewN ?_ _ | with_reducible refine Below.drew ?_)) (hb1.mono (by (try simp only [World.size_alloc, World.size_drew, size_drewN, World.size_setCell]); omega))
  have f1 : w1.cell? ⟨w.heap.size, 0, none⟩ = some (.int .i64 0) := later hb1 (by first | go_simp | go_keep)
  have z1 : w1.frozen? ⟨w.heap.size, 0, none⟩ = false := laterF (v := .int .i64 0) hb1 (by first | go_simp | go_keep) (by first | go_simp | go_keep)
  have f2 : w1.cell? ⟨w.heap.size, 1, none⟩ = some (.int .i64 0) := later hb1 (by first | go_simp | go_keep)
  have z2 : w1.frozen? ⟨w.heap.size, 1, none⟩ = false := laterF (v := .int .i64 0) hb1 (by first | go_simp | go_keep) (by first | go_simp | go_keep)
  have f3 : w1.cell? ⟨w.heap.size, 2, none⟩ = some (.int .i64 0) := later hb1 (by first | go_simp | go_keep)
  have z3 : w1.frozen? ⟨w.heap.size, 2, none⟩ = false := laterF (v := .int .i64 0) hb1 (by first | go_simp | go_keep) (by first | go_simp | go_keep)
  have f4 : w1.cell? ⟨w.heap.size, 3, none⟩ = some (.int .i64 0) := later hb1 (by first | go_simp | go_keep)
  have z4 : w1.frozen? ⟨w.heap.size, 3, none⟩ = false := laterF (v := .int .i64 0) hb1 (by first | go_simp | go_keep) (by first | go_simp | go_keep)
  have f5 : w1.cell? ⟨w.heap.size + 1, 0, none⟩ = some (.int .i64 0) := later hb1 (by first | go_simp | go_keep)
  have z5 : w1.frozen? ⟨w.heap.size + 1, 0, none⟩ = false := laterF (v := .int .i64 0) hb1 (by first | go_simp | go_keep) (by first | go_simp | go_keep)
  have f6 : w1.cell? ⟨w.heap.size + 1, 1, none⟩ = some (.int .i64 0) := later hb1 (by first | go_simp | go_keep)
  have z6 : w1.frozen? ⟨w.heap.size + 1, 1, none⟩ = false := laterF (v := .int .i64 0) hb1 (by first | go_simp | go_keep) (by first | go_simp | go_keep)
  have f7 : w1.cell? ⟨w.heap.size + 1, 2, none⟩ = some (.int .i64 0) := later hb1 (by first | go_simp | go_keep)
  have z7 : w1.frozen? ⟨w.heap.size + 1, 2, none⟩ = false := laterF (v := .int .i64 0) hb1 (by first | go_simp | go_keep) (by first | go_simp | go_keep)
  have f8 : w1.cell? ⟨w.heap.size + 1, 3, none⟩ = some (.int .i64 0) := later hb1 (by first | go_simp | go_keep)
  have z8 : w1.frozen? ⟨w.heap.size + 1, 3, none⟩ = false := laterF (v := .int .i64 0) hb1 (by first | go_simp | go_keep) (by first | go_simp | go_keep)
  have l9 : w.heap.size < w1.heap.size := World.block_lt_of_cell? _ _ f1
  have l10 : w.heap.size + 1 < w1.heap.size := World.block_lt_of_cell? _ _ f5
  have hZ1 := hT1.size
  have ls1 := hS1.lt
  go_wp2_with fail
  refine (dTwo_any s _ (by repeat (first | with_reducible exact hS1 | with_reducible refine Src.alloc ?_ _ | with_reducible refine Src.set ?_ (by omega) (by omega) | with_reducible refine Src.drewN ?_ _ | with_reducible refine Src.drew ?_))).mono ?_
  rintro en w2 ⟨p1, q1, r1, t1, p2, q2, r2, t2, rfl, hS2, hg2⟩
  have hT2 : Below w.heap.size w w2 := Below.trans (by repeat (first | with_reducible exact hT1 | with_reducible exact Below.refl _ _ | with_reducible refine Below.alloc ?_ (by (try simp only [World.size_alloc, World.size_drew, size_drewN, World.size_setCell]); omega) _ | with_reducible refine Below.setCell ?_ (by (try dsimp only); omega) _ | with_reducible refine below_drewN ?_ _ | with_reducible refine Below.drew ?_)) (hg2.to_below (by omega) (by (try simp only [World.size_alloc, World.size_drew, size_drewN, World.size_setCell]); omega))
  have f11 : w2.cell? ⟨w.heap.size, 0, none⟩ = some (.int .i64 0) := hg2.cell2 (by first | (go_simp; done) | exact later (by repeat (first | exact Below.refl _ _ | refine Below.alloc ?_ (by (try simp only [World.size_alloc]); omega) _)) f1 | go_keep) (by (try dsimp only); omega)
  have z11 : w2.frozen? ⟨w.heap.size, 0, none⟩ = false := hg2.frozen2 (v := .int .i64 0) (by first | (go_simp; done) | exact later (by repeat (first | exact Below.refl _ _ | refine Below.alloc ?_ (by (try simp only [World.size_alloc]); omega) _)) f1 | go_keep) (by (try dsimp only); omega) (by first | (go_simp; done) | exact laterF (by repeat (first | exact Below.refl _ _ | refine Below.alloc ?_ (by (try simp only [World.size_alloc]); omega) _)) f1 z1 | go_keep)
  clear f1 z1
  have f12 : w2.cell? ⟨w.heap.size, 1, none⟩ = some (.int .i64 0) := hg2.cell2 (by first | (go_simp; done) | exact later (by repeat (first | exact Below.refl _ _ | refine Below.alloc ?_ (by (try simp only [World.size_alloc]); omega) _)) f2 | go_keep) (by (try dsimp only); omega)
  have z12 : w2.frozen? ⟨w.heap.size, 1, none⟩ = false := hg2.frozen2 (v := .int .i64 0) (by first | (go_simp; done) | exact later (by repeat (first | exact Below.refl _ _ | refine Below.alloc ?_ (by (try simp only [World.size_alloc]); omega) _)) f2 | go_keep) (by (try dsimp only); omega) (by first | (go_simp; done) | exact laterF (by repeat (first | exact Below.refl _ _ | refine Below.alloc ?_ (by (try simp only [World.size_alloc]); omega) _)) f2 z2 | go_keep)
  clear f2 z2
  have f13 : w2.cell? ⟨w.heap.size, 2, none⟩ = some (.int .i64 0) := hg2.cell2 (by first | (go_simp; done) | exact later (by repeat (first | exact Below.refl _ _ | refine Below.alloc ?_ (by (try simp only [World.size_alloc]); omega) _)) f3 | go_keep) (by (try dsimp only); omega)
  have z13 : w2.frozen? ⟨w.heap.size, 2, none⟩ = false := hg2.frozen2 (v := .int .i64 0) (by first | (go_simp; done) | exact later (by repeat (first | exact Below.refl _ _ | refine Below.alloc ?_ (by (try simp only [World.size_alloc]); omega) _)) f3 | go_keep) (by (try dsimp only); omega) (by first | (go_simp; done) | exact laterF (by repeat (first | exact Below.refl _ _ | refine Below.alloc ?_ (by (try simp only [World.size_alloc]); omega) _)) f3 z3 | go_keep)
  clear f3 z3
  have f14 : w2.cell? ⟨w.heap.size, 3, none⟩ = some (.int .i64 0) := hg2.cell2 (by first | (go_simp; done) | exact later (by repeat (first | exact Below.refl _ _ | refine Below.alloc ?_ (by (try simp only [World.size_alloc]); omega) _)) f4 | go_keep) (by (try dsimp only); omega)
  have z14 : w2.frozen? ⟨w.heap.size, 3, none⟩ = false := hg2.frozen2 (v := .int .i64 0) (by first | (go_simp; done) | exact later (by repeat (first | exact Below.refl _ _ | refine Below.alloc ?_ (by (try simp only [World.size_alloc]); omega) _)) f4 | go_keep) (by (try dsimp only); omega) (by first | (go_simp; done) | exact laterF (by repeat (first | exact Below.refl _ _ | refine Below.alloc ?_ (by (try simp only [World.size_alloc]); omega) _)) f4 z4 | go_keep)
  clear f4 z4
  have f15 : w2.cell? ⟨w.heap.size + 1, 0, none⟩ = some (.int .i64 0) := hg2.cell2 (by first | (go_simp; done) | exact later (by repeat (first | exact Below.refl _ _ | refine Below.alloc ?_ (by (try simp only [World.size_alloc]); omega) _)) f5 | go_keep) (by (try dsimp only); omega)
  have z15 : w2.frozen? ⟨w.heap.size + 1, 0, none⟩ = false := hg2.frozen2 (v := .int .i64 0) (by first | (go_simp; done) | exact later (by repeat (first | exact Below.refl _ _ | refine Below.alloc ?_ (by (try simp only [World.size_alloc]); omega) _)) f5 | go_keep) (by (try dsimp only); omega) (by first | (go_simp; done) | exact laterF (by repeat (first | exact Below.refl _ _ | refine Below.alloc ?_ (by (try simp only [World.size_alloc]); omega) _)) f5 z5 | go_keep)
  clear f5 z5
  have f16 : w2.cell? ⟨w.heap.size + 1, 1, none⟩ = some (.int .i64 0) := hg2.cell2 (by first | (go_simp; done) | exact later (by repeat (first | exact Below.refl _ _ | refine Below.alloc ?_ (by (try simp only [World.size_alloc]); omega) _)) f6 | go_keep) (by (try dsimp only); omega)
  have z16 : w2.frozen? ⟨w.heap.size + 1, 1, none⟩ = false := hg2.frozen2 (v := .int .i64 0) (by first | (go_simp; done) | exact later (by repeat (first | exact Below.refl _ _ | refine Below.alloc ?_ (by (try simp only [World.size_alloc]); omega) _)) f6 | go_keep) (by (try dsimp only); omega) (by first | (go_simp; done) | exact laterF (by repeat (first | exact Below.refl _ _ | refine Below.alloc ?_ (by (try simp only [World.size_alloc]); omega) _)) f6 z6 | go_keep)
  clear f6 z6
  have f17 : w2.cell? ⟨w.heap.size + 1, 2, none⟩ = some (.int .i64 0) := hg2.cell2 (by first | (go_simp; done) | exact later (by repeat (first | exact Below.refl _ _ | refine Below.alloc ?_ (by (try simp only [World.size_alloc]); omega) _)) f7 | go_keep) (by (try dsimp only); omega)
  have z17 : w2.frozen? ⟨w.heap.size + 1, 2, none⟩ = false := hg2.frozen2 (v := .int .i64 0) (by first | (go_simp; done) | exact later (by repeat (first | exact Below.refl _ _ | refine Below.alloc ?_ (by (try simp only [World.size_alloc]); omega) _)) f7 | go_keep) (by (try dsimp only); omega) (by first | (go_simp; done) | exact laterF (by repeat (first | exact Below.refl _ _ | refine Below.alloc ?_ (by (try simp only [World.size_alloc]); omega) _)) f7 z7 | go_keep)
  clear f7 z7
  have f18 : w2.cell? ⟨w.heap.size + 1, 3, none⟩ = some (.int .i64 0) := hg2.cell2 (by first | (go_simp; done) | exact later (by repeat (first | exact Below.refl _ _ | refine Below.alloc ?_ (by (try simp only [World.size_alloc]); omega) _)) f8 | go_keep) (by (try dsimp only); omega)
  have z18 : w2.frozen? ⟨w.heap.size + 1, 3, none⟩ = false := hg2.frozen2 (v := .int .i64 0) (by first | (go_simp; done) | exact later (by repeat (first | exact Below.refl _ _ | refine Below.alloc ?_ (by (try simp only [World.size_alloc]); omega) _)) f8 | go_keep) (by (try dsimp only); omega) (by first | (go_simp; done) | exact laterF (by repeat (first | exact Below.refl _ _ | refine Below.alloc ?_ (by (try simp only [World.size_alloc]); omega) _)) f8 z8 | go_keep)
  clear f8 z8
  have l19 : w.heap.size < w2.heap.size := World.block_lt_of_cell? _ _ f11
  have l20 : w.heap.size + 1 < w2.heap.size := World.block_lt_of_cell? _ _ f15
  have hZ2 := hT2.size
  have ls2 := hS2.lt
  go_wp2
  refine bodyPost_ret (v := .tuple #[.agg #[.int .i64 p1, .int .i64 q1, .int .i64 r1, .int .i64 t1], .agg #[.int .i64 p2, .int .i64 q2, .int .i64 r2, .int .i64 t2]]) (by simp [results, Try.results68, go_sem, f11, f12, f13, f14, f15, f16, f17, f18, z11, z12, z13, z14, z15, z16, z17, z18]) rfl ⟨p1, q1, r1, t1, p2, q2, r2, t2, rfl, (by repeat (first | with_reducible exact hT2 | with_reducible exact Below.refl _ _ | with_reducible refine Below.alloc ?_ (by (try simp only [World.size_alloc, World.size_drew, size_drewN, World.size_setCell]); omega) _ | with_reducible refine Below.setCell ?_ (by (try dsimp only); omega) _ | with_reducible refine below_drewN ?_ _ | with_reducible refine Below.drew ?_))⟩
def CmpPost (w : World) (en : Ending) (w9 : World) : Prop := ∃ x1 y1 x3 y3 : Int, en = .returned (.tuple #[.agg #[.int .i64 x1, .int .i64 y1], .agg #[.int .i64 x3, .int .i64 y3]]) ∧ Below w.heap.size w w9
set_option maxHeartbeats 8000000 in
theorem dCmp_any (A : Option Addr) (n c : Nat) (w : World) (hr : RdB w A n) (hm : n ≤ 4096) : Calls Try.prog 64 #[.slice A n c] w (CmpPost w) := by
  go_enter Try.func64, Try.ntmps64
  go_wp2_with fail
  refine (from_any A n c _ (RdB.below hr (by repeat (first | with_reducible exact Below.refl _ _ | with_reducible exact Below.refl _ _ | with_reducible refine Below.alloc ?_ (by (try simp only [World.size_alloc, World.size_drew, size_drewN, World.size_setCell]); omega) _ | with_reducible refine Below.setCell ?_ (by (try dsimp only); omega) _ | with_reducible refine below_drewN ?_ _ | with_reducible refine Below.drew ?_))) hm).mono ?_
  rintro en w1 ⟨s, rfl, hs1, hS1, hb1⟩
  (try simp only [World.size_alloc, World.size_drew, size_drewN, World.size_setCell] at hs1)
  have hT1 : Below w.heap.size w w1 := Below.trans (by repeat (first | with_reducible exact Below.refl _ _ | with_reducible exact Below.refl _ _ | with_reducible refine Below.alloc ?_ (by (try simp only [World.size_alloc, World.size_drew, size_drewN, World.size_setCell]); omega) _ | with_reducible refine Below.setCell ?_ (by (try dsimp only); omega) _ | with_reducible refine below_drewN ?_ _ | with_reducible refine Below.drew ?_)) (hb1.mono (by (try simp only [World.size_alloc, World.size_drew, size_drewN, World.size_setCell]); omega))
  have f1 : w1.cell? ⟨w.heap.size, 0, none⟩ = some (.int .i64 0) := later hb1 (by first | go_simp | go_keep)
  have z1 : w1.frozen? ⟨w.heap.size, 0, none⟩ = false := laterF (v := .int .i64 0) hb1 (by first | go_simp | go_keep) (by first | go_simp | go_keep)
  have f2 : w1.cell? ⟨w.heap.size, 1, none⟩ = some (.int .i64 0) := later hb1 (by first | go_simp | go_keep)
  have z2 : w1.frozen? ⟨w.heap.size, 1, none⟩ = false := laterF (v := .int .i64 0) hb1 (by first | go_simp | go_keep) (by first | go_simp | go_keep)
  have f3 : w1.cell? ⟨w.heap.size + 1, 0, none⟩ = some (.int .i64 0) := later hb1 (by first | go_simp | go_keep)
  have z3 : w1.frozen? ⟨w.heap.size + 1, 0, none⟩ = false := laterF (v := .int .i64 0) hb1 (by first | go_simp | go_keep) (by first | go_simp | go_keep)
  have f4 : w1.cell? ⟨w.heap.size + 1, 1, none⟩ = some (.int .i64 0) := later hb1 (by first | go_simp | go_keep)
  have z4 : w1.frozen? ⟨w.heap.size + 1, 1, none⟩ = false := laterF (v := .int .i64 0) hb1 (by first | go_simp | go_keep) (by first | go_simp | go_keep)
  have l5 : w.heap.size < w1.heap.size := World.block_lt_of_cell? _ _ f1
  have l6 : w.heap.size + 1 < w1.heap.size := World.block_lt_of_cell? _ _ f3
  have hZ1 := hT1.size
  have ls1 := hS1.lt
  go_wp2_with fail
  refine (dBear_any s _ (by repeat (first | with_reducible exact hS1 | with_reducible refine Src.alloc ?_ _ | with_reducible refine Src.set ?_ (by omega) (by omega) | with_reducible refine Src.drewN ?_ _ | with_reducible refine Src.drew ?_))).mono ?_
  rintro en w2 ⟨x1, y1, rfl, hS2, hg2⟩
  have hT2 : Below w.heap.size w w2 := Below.trans (by repeat (first | with_reducible exact hT1 | with_reducible exact Below.refl _ _ | with_reducible refine Below.alloc ?_ (by (try simp only [World.size_alloc, World.size_drew, size_drewN, World.size_setCell]); omega) _ | with_reducible refine Below.setCell ?_ (by (try dsimp only); omega) _ | with_reducible refine below_drewN ?_ _ | with_reducible refine Below.drew ?_)) (hg2.to_below (by omega) (by (try simp only [World.size_alloc, World.size_drew, size_drewN, World.size_setCell]); omega))
  have f7 : w2.cell? ⟨w.heap.size, 0, none⟩ = some (.int .i64 0) := hg2.cell2 (by first | (go_simp; done) | exact later (by repeat (first | exact Below.refl _ _ | refine Below.alloc ?_ (by (try simp only [World.size_alloc]); omega) _)) f1 | go_keep) (by (try dsimp only); omega)
  have z7 : w2.frozen? ⟨w.heap.size, 0, none⟩ = false := hg2.frozen2 (v := .int .i64 0) (by first | (go_simp; done) | exact later (by repeat (first | exact Below.refl _ _ | refine Below.alloc ?_ (by (try simp only [World.size_alloc]); omega) _)) f1 | go_keep) (by (try dsimp only); omega) (by first | (go_simp; done) | exact laterF (by repeat (first | exact Below.refl _ _ | refine Below.alloc ?_ (by (try simp only [World.size_alloc]); omega) _)) f1 z1 | go_keep)
  clear f1 z1
  have f8 : w2.cell? ⟨w.heap.size, 1, none⟩ = some (.int .i64 0) := hg2.cell2 (by first | (go_simp; done) | exact later (by repeat (first | exact Below.refl _ _ | refine Below.alloc ?_ (by (try simp only [World.size_alloc]); omega) _)) f2 | go_keep) (by (try dsimp only); omega)
  have z8 : w2.frozen? ⟨w.heap.size, 1, none⟩ = false := hg2.frozen2 (v := .int .i64 0) (by first | (go_simp; done) | exact later (by repeat (first | exact Below.refl _ _ | refine Below.alloc ?_ (by (try simp only [World.size_alloc]); omega) _)) f2 | go_keep) (by (try dsimp only); omega) (by first | (go_simp; done) | exact laterF (by repeat (first | exact Below.refl _ _ | refine Below.alloc ?_ (by (try simp only [World.size_alloc]); omega) _)) f2 z2 | go_keep)
  clear f2 z2
  have f9 : w2.cell? ⟨w.heap.size + 1, 0, none⟩ = some (.int .i64 0) := hg2.cell2 (by first | (go_simp; done) | exact later (by repeat (first | exact Below.refl _ _ | refine Below.alloc ?_ (by (try simp only [World.size_alloc]); omega) _)) f3 | go_keep) (by (try dsimp only); omega)
  have z9 : w2.frozen? ⟨w.heap.size + 1, 0, none⟩ = false := hg2.frozen2 (v := .int .i64 0) (by first | (go_simp; done) | exact later (by repeat (first | exact Below.refl _ _ | refine Below.alloc ?_ (by (try simp only [World.size_alloc]); omega) _)) f3 | go_keep) (by (try dsimp only); omega) (by first | (go_simp; done) | exact laterF (by repeat (first | exact Below.refl _ _ | refine Below.alloc ?_ (by (try simp only [World.size_alloc]); omega) _)) f3 z3 | go_keep)
  clear f3 z3
  have f10 : w2.cell? ⟨w.heap.size + 1, 1, none⟩ = some (.int .i64 0) := hg2.cell2 (by first | (go_simp; done) | exact later (by repeat (first | exact Below.refl _ _ | refine Below.alloc ?_ (by (try simp only [World.size_alloc]); omega) _)) f4 | go_keep) (by (try dsimp only); omega)
  have z10 : w2.frozen? ⟨w.heap.size + 1, 1, none⟩ = false := hg2.frozen2 (v := .int .i64 0) (by first | (go_simp; done) | exact later (by repeat (first | exact Below.refl _ _ | refine Below.alloc ?_ (by (try simp only [World.size_alloc]); omega) _)) f4 | go_keep) (by (try dsimp only); omega) (by first | (go_simp; done) | exact laterF (by repeat (first | exact Below.refl _ _ | refine Below.alloc ?_ (by (try simp only [World.size_alloc]); omega) _)) f4 z4 | go_keep)
  clear f4 z4
  have l11 : w.heap.size < w2.heap.size := World.block_lt_of_cell? _ _ f7
  have l12 : w.heap.size + 1 < w2.heap.size := World.block_lt_of_cell? _ _ f9
  have hZ2 := hT2.size
  have ls2 := hS2.lt
  go_wp2_with fail
  refine (next_any s _ _ (by repeat (first | with_reducible exact hS2 | with_reducible refine Src.alloc ?_ _ | with_reducible refine Src.set ?_ (by omega) (by omega) | with_reducible refine Src.drewN ?_ _ | with_reducible refine Src.drew ?_))).mono ?_
  rintro en w3 ⟨e, rfl, a1, b1, hS3, hg3⟩
  have hT3 : Below w.heap.size w w3 := Below.trans (by repeat (first | with_reducible exact hT2 | with_reducible exact Below.refl _ _ | with_reducible refine Below.alloc ?_ (by (try simp only [World.size_alloc, World.size_drew, size_drewN, World.size_setCell]); omega) _ | with_reducible refine Below.setCell ?_ (by (try dsimp only); omega) _ | with_reducible refine below_drewN ?_ _ | with_reducible refine Below.drew ?_)) (hg3.to_below (by omega) (by (try simp only [World.size_alloc, World.size_drew, size_drewN, World.size_setCell]); omega))
  have f13 : w3.cell? ⟨w.heap.size, 0, none⟩ = some (.int .i64 0) := hg3.cell2 (by first | (go_simp; done) | exact later (by repeat (first | exact Below.refl _ _ | refine Below.alloc ?_ (by (try simp only [World.size_alloc]); omega) _)) f7 | go_keep) (by (try dsimp only); omega)
  have z13 : w3.frozen? ⟨w.heap.size, 0, none⟩ = false := hg3.frozen2 (v := .int .i64 0) (by first | (go_simp; done) | exact later (by repeat (first | exact Below.refl _ _ | refine Below.alloc ?_ (by (try simp only [World.size_alloc]); omega) _)) f7 | go_keep) (by (try dsimp only); omega) (by first | (go_simp; done) | exact laterF (by repeat (first | exact Below.refl _ _ | refine Below.alloc ?_ (by (try simp only [World.size_alloc]); omega) _)) f7 z7 | go_keep)
  clear f7 z7
  have f14 : w3.cell? ⟨w.heap.size, 1, none⟩ = some (.int .i64 0) := hg3.cell2 (by first | (go_simp; done) | exact later (by repeat (first | exact Below.refl _ _ | refine Below.alloc ?_ (by (try simp only [World.size_alloc]); omega) _)) f8 | go_keep) (by (try dsimp only); omega)
  have z14 : w3.frozen? ⟨w.heap.size, 1, none⟩ = false := hg3.frozen2 (v := .int .i64 0) (by first | (go_simp; done) | exact later (by repeat (first | exact Below.refl _ _ | refine Below.alloc ?_ (by (try simp only [World.size_alloc]); omega) _)) f8 | go_keep) (by (try dsimp only); omega) (by first | (go_simp; done) | exact laterF (by repeat (first | exact Below.refl _ _ | refine Below.alloc ?_ (by (try simp only [World.size_alloc]); omega) _)) f8 z8 | go_keep)
  clear f8 z8
  have f15 : w3.cell? ⟨w.heap.size + 1, 0, none⟩ = some (.int .i64 0) := hg3.cell2 (by first | (go_simp; done) | exact later (by repeat (first | exact Below.refl _ _ | refine Below.alloc ?_ (by (try simp only [World.size_alloc]); omega) _)) f9 | go_keep) (by (try dsimp only); omega)
  have z15 : w3.frozen? ⟨w.heap.size + 1, 0, none⟩ = false := hg3.frozen2 (v := .int .i64 0) (by first | (go_simp; done) | exact later (by repeat (first | exact Below.refl _ _ | refine Below.alloc ?_ (by (try simp only [World.size_alloc]); omega) _)) f9 | go_keep) (by (try dsimp only); omega) (by first | (go_simp; done) | exact laterF (by repeat (first | exact Below.refl _ _ | refine Below.alloc ?_ (by (try simp only [World.size_alloc]); omega) _)) f9 z9 | go_keep)
  clear f9 z9
  have f16 : w3.cell? ⟨w.heap.size + 1, 1, none⟩ = some (.int .i64 0) := hg3.cell2 (by first | (go_simp; done) | exact later (by repeat (first | exact Below.refl _ _ | refine Below.alloc ?_ (by (try simp only [World.size_alloc]); omega) _)) f10 | go_keep) (by (try dsimp only); omega)
  have z16 : w3.frozen? ⟨w.heap.size + 1, 1, none⟩ = false := hg3.frozen2 (v := .int .i64 0) (by first | (go_simp; done) | exact later (by repeat (first | exact Below.refl _ _ | refine Below.alloc ?_ (by (try simp only [World.size_alloc]); omega) _)) f10 | go_keep) (by (try dsimp only); omega) (by first | (go_simp; done) | exact laterF (by repeat (first | exact Below.refl _ _ | refine Below.alloc ?_ (by (try simp only [World.size_alloc]); omega) _)) f10 z10 | go_keep)
  clear f10 z10
  have f17 : w3.cell? ⟨w2.heap.size, 0, none⟩ = some (.int .i64 x1) := hg3.cell2 (by first | (go_simp; done) | go_keep) (by (try dsimp only); omega)
  have z17 : w3.frozen? ⟨w2.heap.size, 0, none⟩ = false := hg3.frozen2 (v := .int .i64 x1) (by first | (go_simp; done) | go_keep) (by (try dsimp only); omega) (by first | (go_simp; done) | go_keep)
  have f18 : w3.cell? ⟨w2.heap.size, 1, none⟩ = some (.int .i64 y1) := hg3.cell2 (by first | (go_simp; done) | go_keep) (by (try dsimp only); omega)
  have z18 : w3.frozen? ⟨w2.heap.size, 1, none⟩ = false := hg3.frozen2 (v := .int .i64 y1) (by first | (go_simp; done) | go_keep) (by (try dsimp only); omega) (by first | (go_simp; done) | go_keep)
  have l19 : w.heap.size < w3.heap.size := World.block_lt_of_cell? _ _ f13
  have l20 : w.heap.size + 1 < w3.heap.size := World.block_lt_of_cell? _ _ f15
  have l21 : w2.heap.size < w3.heap.size := World.block_lt_of_cell? _ _ f17
  have hZ3 := hT3.size
  have ls3 := hS3.lt
  clear a1 b1
  by_cases e0 : e = 0
  · have e1 : (e == 0) = true := by simpa using e0
    clear e0
    go_wp2_with fail
    refine (pick_any s _ 4 4 [1, 2, 3, (-1)] _ (by repeat (first | with_reducible exact hS3 | with_reducible refine Src.alloc ?_ _ | with_reducible refine Src.set ?_ (by omega) (by omega) | with_reducible refine Src.drewN ?_ _ | with_reducible refine Src.drew ?_)) rfl (by decide) (by decide) (Rd.new2 _ _ [1, 2, 3, (-1)] (by first | (simp only [World.size_alloc]; done) | (go_size; done))) (fun b off e => by cases e; omega)).mono ?_
    rintro en w4 ⟨k, rfl, hk, hS4, hg4⟩
    have hT4 : Below w.heap.size w w4 := Below.trans (by repeat (first | with_reducible exact hT3 | with_reducible exact Below.refl _ _ | with_reducible refine Below.alloc ?_ (by (try simp only [World.size_alloc, World.size_drew, size_drewN, World.size_setCell]); omega) _ | with_reducible refine Below.setCell ?_ (by (try dsimp only); omega) _ | with_reducible refine below_drewN ?_ _ | with_reducible refine Below.drew ?_)) (hg4.to_below (by omega) (by (try simp only [World.size_alloc, World.size_drew, size_drewN, World.size_setCell]); omega))
    have f22 : w4.cell? ⟨w.heap.size, 0, none⟩ = some (.int .i64 0) := hg4.cell2 (by first | (go_simp; done) | exact later (by repeat (first | exact Below.refl _ _ | refine Below.alloc ?_ (by (try simp only [World.size_alloc]); omega) _)) f13 | go_keep) (by (try dsimp only); omega)
    have z22 : w4.frozen? ⟨w.heap.size, 0, none⟩ = false := hg4.frozen2 (v := .int .i64 0) (by first | (go_simp; done) | exact later (by repeat (first | exact Below.refl _ _ | refine Below.alloc ?_ (by (try simp only [World.size_alloc]); omega) _)) f13 | go_keep) (by (try dsimp only); omega) (by first | (go_simp; done) | exact laterF (by repeat (first | exact Below.refl _ _ | refine Below.alloc ?_ (by (try simp only [World.size_alloc]); omega) _)) f13 z13 | go_keep)
    clear f13 z13
    have f23 : w4.cell? ⟨w.heap.size, 1, none⟩ = some (.int .i64 0) := hg4.cell2 (by first | (go_simp; done) | exact later (by repeat (first | exact Below.refl _ _ | refine Below.alloc ?_ (by (try simp only [World.size_alloc]); omega) _)) f14 | go_keep) (by (try dsimp only); omega)
    have z23 : w4.frozen? ⟨w.heap.size, 1, none⟩ = false := hg4.frozen2 (v := .int .i64 0) (by first | (go_simp; done) | exact later (by repeat (first | exact Below.refl _ _ | refine Below.alloc ?_ (by (try simp only [World.size_alloc]); omega) _)) f14 | go_keep) (by (try dsimp only); omega) (by first | (go_simp; done) | exact laterF (by repeat (first | exact Below.refl _ _ | refine Below.alloc ?_ (by (try simp only [World.size_alloc]); omega) _)) f14 z14 | go_keep)
    clear f14 z14
    have f24 : w4.cell? ⟨w.heap.size + 1, 0, none⟩ = some (.int .i64 0) := hg4.cell2 (by first | (go_simp; done) | exact later (by repeat (first | exact Below.refl _ _ | refine Below.alloc ?_ (by (try simp only [World.size_alloc]); omega) _)) f15 | go_keep) (by (try dsimp only); omega)
    have z24 : w4.frozen? ⟨w.heap.size + 1, 0, none⟩ = false := hg4.frozen2 (v := .int .i64 0) (by first | (go_simp; done) | exact later (by repeat (first | exact Below.refl _ _ | refine Below.alloc ?_ (by (try simp only [World.size_alloc]); omega) _)) f15 | go_keep) (by (try dsimp only); omega) (by first | (go_simp; done) | exact laterF (by repeat (first | exact Below.refl _ _ | refine Below.alloc ?_ (by (try simp only [World.size_alloc]); omega) _)) f15 z15 | go_keep)
    clear f15 z15
    have f25 : w4.cell? ⟨w.heap.size + 1, 1, none⟩ = some (.int .i64 0) := hg4.cell2 (by first | (go_simp; done) | exact later (by repeat (first | exact Below.refl _ _ | refine Below.alloc ?_ (by (try simp only [World.size_alloc]); omega) _)) f16 | go_keep) (by (try dsimp only); omega)
    have z25 : w4.frozen? ⟨w.heap.size + 1, 1, none⟩ = false := hg4.frozen2 (v := .int .i64 0) (by first | (go_simp; done) | exact later (by repeat (first | exact Below.refl _ _ | refine Below.alloc ?_ (by (try simp only [World.size_alloc]); omega) _)) f16 | go_keep) (by (try dsimp only); omega) (by first | (go_simp; done) | exact laterF (by repeat (first | exact Below.refl _ _ | refine Below.alloc ?_ (by (try simp only [World.size_alloc]); omega) _)) f16 z16 | go_keep)
    clear f16 z16
    have f26 : w4.cell? ⟨w2.heap.size, 0, none⟩ = some (.int .i64 x1) := hg4.cell2 (by first | (go_simp; done) | exact later (by repeat (first | exact Below.refl _ _ | refine Below.alloc ?_ (by (try simp only [World.size_alloc]); omega) _)) f17 | go_keep) (by (try dsimp only); omega)
    have z26 : w4.frozen? ⟨w2.heap.size, 0, none⟩ = false := hg4.frozen2 (v := .int .i64 x1) (by first | (go_simp; done) | exact later (by repeat (first | exact Below.refl _ _ | refine Below.alloc ?_ (by (try simp only [World.size_alloc]); omega) _)) f17 | go_keep) (by (try dsimp only); omega) (by first | (go_simp; done) | exact laterF (by repeat (first | exact Below.refl _ _ | refine Below.alloc ?_ (by (try simp only [World.size_alloc]); omega) _)) f17 z17 | go_keep)
    clear f17 z17
    have f27 : w4.cell? ⟨w2.heap.size, 1, none⟩ = some (.int .i64 y1) := hg4.cell2 (by first | (go_simp; done) | exact later (by repeat (first | exact Below.refl _ _ | refine Below.alloc ?_ (by (try simp only [World.size_alloc]); omega) _)) f18 | go_keep) (by (try dsimp only); omega)
    have z27 : w4.frozen? ⟨w2.heap.size, 1, none⟩ = false := hg4.frozen2 (v := .int .i64 y1) (by first | (go_simp; done) | exact later (by repeat (first | exact Below.refl _ _ | refine Below.alloc ?_ (by (try simp only [World.size_alloc]); omega) _)) f18 | go_keep) (by (try dsimp only); omega) (by first | (go_simp; done) | exact laterF (by repeat (first | exact Below.refl _ _ | refine Below.alloc ?_ (by (try simp only [World.size_alloc]); omega) _)) f18 z18 | go_keep)
    clear f18 z18
    have l28 : w.heap.size < w4.heap.size := World.block_lt_of_cell? _ _ f22
    have l29 : w.heap.size + 1 < w4.heap.size := World.block_lt_of_cell? _ _ f24
    have l30 : w2.heap.size < w4.heap.size := World.block_lt_of_cell? _ _ f26
    have hZ4 := hT4.size
    have ls4 := hS4.lt
    clear hk
    have n31 : ¬ w.heap.size = w2.heap.size := (by omega)
    have n32 : ¬ w.heap.size + 1 = w2.heap.size := (by omega)
    have n33 : ¬ w2.heap.size = w.heap.size := (by omega)
    have n34 : ¬ w2.heap.size = w.heap.size + 1 := (by omega)
    go_wp2
    go_region
    have n35 : ¬ w.heap.size = w2.heap.size := (by omega)
    have n36 : ¬ w.heap.size + 1 = w2.heap.size := (by omega)
    have n37 : ¬ w2.heap.size = w.heap.size := (by omega)
    have n38 : ¬ w2.heap.size = w.heap.size + 1 := (by omega)
    go_wp2
    refine bodyPost_ret (v := .tuple #[.agg #[.int .i64 x1, .int .i64 y1], .agg #[.int .i64 (wrap64 (k * x1)), .int .i64 (wrap64 (k * y1))]]) (by simp [results, Try.results64, go_sem, f22, f23, f24, f25, f26, f27, z22, z23, z24, z25, z26, z27, n35, n36, n37, n38]) rfl ⟨x1, y1, (wrap64 (k * x1)), (wrap64 (k * y1)), rfl, (by repeat (first | with_reducible exact hT4 | with_reducible exact Below.refl _ _ | with_reducible refine Below.alloc ?_ (by (try simp only [World.size_alloc, World.size_drew, size_drewN, World.size_setCell]); omega) _ | with_reducible refine Below.setCell ?_ (by (try dsimp only); omega) _ | with_reducible refine below_drewN ?_ _ | with_reducible refine Below.drew ?_))⟩
  · have e1 : (e == 0) = false := by simpa using e0
    clear e0
    go_upto_region 6 with fail
    have n22 : ¬ w.heap.size = w2.heap.size := (by omega)
    have n23 : ¬ w.heap.size + 1 = w2.heap.size := (by omega)
    have n24 : ¬ w2.heap.size = w.heap.size := (by omega)
    have n25 : ¬ w2.heap.size = w.heap.size + 1 := (by omega)
    go_region_held3 (fun w9 => w9.cell? ⟨w2.heap.size, 0, none⟩ = some (.int .i64 x1) ∧ w9.cell? ⟨w2.heap.size, 1, none⟩ = some (.int .i64 y1)) (first | with_reducible assumption | go_keep) (first | (go_at_call 106; refine (dBear_any s _ (Src.drew hS3)).mono ?_; rintro en wx ⟨x3, y3, rfl, hSx, hgx⟩; have fr0 : wx.cell? ⟨w.heap.size, 0, none⟩ = some (.int .i64 0) := hgx.cell2 (by first | exact f13 | go_simp) (by (try dsimp only); omega); have frz0 : wx.frozen? ⟨w.heap.size, 0, none⟩ = false := hgx.frozen2 (v := .int .i64 0) (by first | exact f13 | go_simp) (by (try dsimp only); omega) (by first | exact z13 | go_simp); have fr1 : wx.cell? ⟨w.heap.size, 1, none⟩ = some (.int .i64 0) := hgx.cell2 (by first | exact f14 | go_simp) (by (try dsimp only); omega); have frz1 : wx.frozen? ⟨w.heap.size, 1, none⟩ = false := hgx.frozen2 (v := .int .i64 0) (by first | exact f14 | go_simp) (by (try dsimp only); omega) (by first | exact z14 | go_simp); have fr2 : wx.cell? ⟨w.heap.size + 1, 0, none⟩ = some (.int .i64 0) := hgx.cell2 (by first | exact f15 | go_simp) (by (try dsimp only); omega); have frz2 : wx.frozen? ⟨w.heap.size + 1, 0, none⟩ = false := hgx.frozen2 (v := .int .i64 0) (by first | exact f15 | go_simp) (by (try dsimp only); omega) (by first | exact z15 | go_simp); have fr3 : wx.cell? ⟨w.heap.size + 1, 1, none⟩ = some (.int .i64 0) := hgx.cell2 (by first | exact f16 | go_simp) (by (try dsimp only); omega); have frz3 : wx.frozen? ⟨w.heap.size + 1, 1, none⟩ = false := hgx.frozen2 (v := .int .i64 0) (by first | exact f16 | go_simp) (by (try dsimp only); omega) (by first | exact z16 | go_simp); have fr4 : wx.cell? ⟨w2.heap.size, 0, none⟩ = some (.int .i64 x1) := hgx.cell2 (by first | exact f17 | go_simp) (by (try dsimp only); omega); have frz4 : wx.frozen? ⟨w2.heap.size, 0, none⟩ = false := hgx.frozen2 (v := .int .i64 x1) (by first | exact f17 | go_simp) (by (try dsimp only); omega) (by first | exact z17 | go_simp); have fr5 : wx.cell? ⟨w2.heap.size, 1, none⟩ = some (.int .i64 y1) := hgx.cell2 (by first | exact f18 | go_simp) (by (try dsimp only); omega); have frz5 : wx.frozen? ⟨w2.heap.size, 1, none⟩ = false := hgx.frozen2 (v := .int .i64 y1) (by first | exact f18 | go_simp) (by (try dsimp only); omega) (by first | exact z18 | go_simp); have hTx : Below w.heap.size w wx := Below.trans (Below.drew hT3) (hgx.to_below (by omega) (by (try simp only [World.size_alloc, World.size_drew, size_drewN, World.size_setCell]); omega)); have lsx := hSx.lt; have hZx := hTx.size))
    have n26 : ¬ w.heap.size = w2.heap.size := (by omega)
    have n27 : ¬ w.heap.size + 1 = w2.heap.size := (by omega)
    have n28 : ¬ w2.heap.size = w.heap.size := (by omega)
    have n29 : ¬ w2.heap.size = w.heap.size + 1 := (by omega)
    go_wp2
    refine bodyPost_ret (v := .tuple #[.agg #[.int .i64 x1, .int .i64 y1], .agg #[.int .i64 x3, .int .i64 y3]]) (by simp [results, Try.results64, go_sem, fr0, fr1, fr2, fr3, fr4, fr5, frz0, frz1, frz2, frz3, frz4, frz5, n26, n27, n28, n29]) rfl ⟨x1, y1, x3, y3, rfl, (by repeat (first | with_reducible exact hTx | with_reducible exact Below.refl _ _ | with_reducible refine Below.alloc ?_ (by (try simp only [World.size_alloc, World.size_drew, size_drewN, World.size_setCell]); omega) _ | with_reducible refine Below.setCell ?_ (by (try dsimp only); omega) _ | with_reducible refine below_drewN ?_ _ | with_reducible refine Below.drew ?_))⟩
end Go.Proofs.Ytoccglmlpobeeaa
