/- the law, walked: MoveOn -/
import Derived.Test.YtoccglmlpobeeaaW9
import Derived.Test.YtoccglmlpobeeaaL2
set_option linter.unusedVariables false
set_option linter.unusedSimpArgs false
namespace Go.Proofs.Ytoccglmlpobeeaa
open Go.RowKit

theorem eqMotion_any (x y z u v : Int) (w : World) :
    Calls Try.prog 49 #[.agg #[.int .i64 x, .int .i64 y, .int .i64 z, .int .i64 u, .int .i64 v], .agg #[.int .i64 x, .int .i64 y, .int .i64 z, .int .i64 u, .int .i64 v]] w fun en w9 => en = .returned (.bool true) ∧ Below w.heap.size w w9 := by
  go_enter Try.func49, Try.ntmps49
  go_wp2
  go_ret
  exact ⟨rfl, by go_grown⟩
set_option maxHeartbeats 4000000 in
theorem lawMv_any (x y vx vy s k : Int) (w : World) :
    Calls Try.prog 13 #[.agg #[.int .i64 x, .int .i64 y, .int .i64 vx, .int .i64 vy, .int .i64 s], .int .i64 k] w fun en w9 => en = .returned (.bool true) ∧ Below w.heap.size w w9 := by
  go_enter Try.func13, Try.ntmps13
  go_wp2_with fail
  refine (toMotion_any _ _ _ _ _ _).mono ?_
  rintro en w1 ⟨rfl, hb1⟩
  have hB1 : Below w.heap.size w w1 := by first | exact hb1 | exact Below.trans (by (go_grown; done)) (hb1.mono (by (go_size; done)))
  have f1 : w1.cell? ⟨w.heap.size, 0, none⟩ = some (.int .i64 x) := (hb1.cell (p := ⟨w.heap.size, 0, none⟩) (by first | (go_size; done) | (simp; done) | (simp <;> omega))).trans (by go_simp)
  have f2 : w1.cell? ⟨w.heap.size, 1, none⟩ = some (.int .i64 y) := (hb1.cell (p := ⟨w.heap.size, 1, none⟩) (by first | (go_size; done) | (simp; done) | (simp <;> omega))).trans (by go_simp)
  have f3 : w1.cell? ⟨w.heap.size, 2, none⟩ = some (.int .i64 vx) := (hb1.cell (p := ⟨w.heap.size, 2, none⟩) (by first | (go_size; done) | (simp; done) | (simp <;> omega))).trans (by go_simp)
  have f4 : w1.cell? ⟨w.heap.size, 3, none⟩ = some (.int .i64 vy) := (hb1.cell (p := ⟨w.heap.size, 3, none⟩) (by first | (go_size; done) | (simp; done) | (simp <;> omega))).trans (by go_simp)
  have f5 : w1.cell? ⟨w.heap.size, 4, none⟩ = some (.int .i64 s) := (hb1.cell (p := ⟨w.heap.size, 4, none⟩) (by first | (go_size; done) | (simp; done) | (simp <;> omega))).trans (by go_simp)
  have l6 : w.heap.size < w1.heap.size := World.block_lt_of_cell? _ _ f1
  have hZ1 := hB1.size
  go_wp2_with fail
  refine (sMv_any _ _ _ _ _ _ _).mono ?_
  rintro en w2 ⟨rfl, hb2⟩
  have hB2 : Below w1.heap.size w1 w2 := by first | exact hb2 | exact Below.trans (by (go_grown; done)) (hb2.mono (by (go_size; done)))
  have f7 := later hB2 f1
  have f8 := later hB2 f2
  have f9 := later hB2 f3
  have f10 := later hB2 f4
  have f11 := later hB2 f5
  have l12 : w.heap.size < w2.heap.size := World.block_lt_of_cell? _ _ f7
  have hW2 := bseq hB1 (hB2)
  have hZ2 := hW2.size
  go_wp2_with fail
  refine (toMotion_any _ _ _ _ _ _).mono ?_
  rintro en w3 ⟨rfl, hb3⟩
  have hB3 : Below w2.heap.size w2 w3 := by first | exact hb3 | exact Below.trans (by (go_grown; done)) (hb3.mono (by (go_size; done)))
  have f13 := later hB3 f7
  have f14 := later hB3 f8
  have f15 := later hB3 f9
  have f16 := later hB3 f10
  have f17 := later hB3 f11
  have f18 : w3.cell? ⟨w2.heap.size, 0, none⟩ = some (.int .i64 (mvV x y vx vy s k (x + k * vx))) := (hb3.cell (p := ⟨w2.heap.size, 0, none⟩) (by first | (go_size; done) | (simp; done) | (simp <;> omega))).trans (by go_simp)
  have f19 : w3.cell? ⟨w2.heap.size, 1, none⟩ = some (.int .i64 (mvV x y vx vy s k (y + k * vy))) := (hb3.cell (p := ⟨w2.heap.size, 1, none⟩) (by first | (go_size; done) | (simp; done) | (simp <;> omega))).trans (by go_simp)
  have f20 : w3.cell? ⟨w2.heap.size, 2, none⟩ = some (.int .i64 (mvV x y vx vy s k (vx))) := (hb3.cell (p := ⟨w2.heap.size, 2, none⟩) (by first | (go_size; done) | (simp; done) | (simp <;> omega))).trans (by go_simp)
  have f21 : w3.cell? ⟨w2.heap.size, 3, none⟩ = some (.int .i64 (mvV x y vx vy s k (vy))) := (hb3.cell (p := ⟨w2.heap.size, 3, none⟩) (by first | (go_size; done) | (simp; done) | (simp <;> omega))).trans (by go_simp)
  have f22 : w3.cell? ⟨w2.heap.size, 4, none⟩ = some (.int .i64 (mvV x y vx vy s k (mvS s k))) := (hb3.cell (p := ⟨w2.heap.size, 4, none⟩) (by first | (go_size; done) | (simp; done) | (simp <;> omega))).trans (by go_simp)
  have l23 : w.heap.size < w3.heap.size := World.block_lt_of_cell? _ _ f13
  have l24 : w2.heap.size < w3.heap.size := World.block_lt_of_cell? _ _ f18
  have hW3 := bseq hB1 (bseq hB2 (hB3))
  have hZ3 := hW3.size
  go_wp2_with fail
  refine (iMv_any _ _ _ _ _ _ _).mono ?_
  rintro en w4 ⟨rfl, hb4⟩
  have hB4 : Below w3.heap.size w3 w4 := by first | exact hb4 | exact Below.trans (by (go_grown; done)) (hb4.mono (by (go_size; done)))
  have f25 := later hB4 f13
  have f26 := later hB4 f14
  have f27 := later hB4 f15
  have f28 := later hB4 f16
  have f29 := later hB4 f17
  have f30 := later hB4 f18
  have f31 := later hB4 f19
  have f32 := later hB4 f20
  have f33 := later hB4 f21
  have f34 := later hB4 f22
  have l35 : w.heap.size < w4.heap.size := World.block_lt_of_cell? _ _ f25
  have l36 : w2.heap.size < w4.heap.size := World.block_lt_of_cell? _ _ f30
  have hW4 := bseq hB1 (bseq hB2 (bseq hB3 (hB4)))
  have hZ4 := hW4.size
  go_wp2_with fail
  refine (eqMotion_any _ _ _ _ _ _).mono ?_
  rintro en w5 ⟨rfl, hb5⟩
  have hB5 : Below w4.heap.size w4 w5 := by first | exact hb5 | exact Below.trans (by (go_grown; done)) (hb5.mono (by (go_size; done)))
  have f37 := later hB5 f25
  have f38 := later hB5 f26
  have f39 := later hB5 f27
  have f40 := later hB5 f28
  have f41 := later hB5 f29
  have f42 := later hB5 f30
  have f43 := later hB5 f31
  have f44 := later hB5 f32
  have f45 := later hB5 f33
  have f46 := later hB5 f34
  have l47 : w.heap.size < w5.heap.size := World.block_lt_of_cell? _ _ f37
  have l48 : w2.heap.size < w5.heap.size := World.block_lt_of_cell? _ _ f42
  have hW5 := bseq hB1 (bseq hB2 (bseq hB3 (bseq hB4 (hB5))))
  have hZ5 := hW5.size
  go_wp2
  go_ret
  exact ⟨rfl, hW5⟩
end Go.Proofs.Ytoccglmlpobeeaa
