/- the law, walked: PositionAt -/
import Derived.Test.YtoccglmlpobeeaaW7
import Derived.Test.YtoccglmlpobeeaaW5
set_option linter.unusedVariables false
set_option linter.unusedSimpArgs false
namespace Go.Proofs.Ytoccglmlpobeeaa
open Go.RowKit

theorem eqPoint_any (x y : Int) (w : World) :
    Calls Try.prog 44 #[.agg #[.int .i64 x, .int .i64 y], .agg #[.int .i64 x, .int .i64 y]] w fun en w9 => en = .returned (.bool true) ∧ Below w.heap.size w w9 := by
  go_enter Try.func44, Try.ntmps44
  go_wp2
  go_ret
  exact ⟨rfl, by go_grown⟩
set_option maxHeartbeats 4000000 in
theorem lawPos_any (p q r s t : Int) (w : World) :
    Calls Try.prog 11 #[.agg #[.int .i64 p, .int .i64 q, .int .i64 r, .int .i64 s], .int .i64 t] w fun en w9 => en = .returned (.bool true) ∧ Below w.heap.size w w9 := by
  go_enter Try.func11, Try.ntmps11
  go_wp2_with fail
  refine (toTrack_any _ _ _ _ _).mono ?_
  rintro en w1 ⟨rfl, hb1⟩
  have hB1 : Below w.heap.size w w1 := by first | exact hb1 | exact Below.trans (by (go_grown; done)) (hb1.mono (by (go_size; done)))
  have f1 : w1.cell? ⟨w.heap.size, 0, none⟩ = some (.int .i64 p) := (hb1.cell (p := ⟨w.heap.size, 0, none⟩) (by first | (go_size; done) | (simp; done) | (simp <;> omega))).trans (by go_simp)
  have f2 : w1.cell? ⟨w.heap.size, 1, none⟩ = some (.int .i64 q) := (hb1.cell (p := ⟨w.heap.size, 1, none⟩) (by first | (go_size; done) | (simp; done) | (simp <;> omega))).trans (by go_simp)
  have f3 : w1.cell? ⟨w.heap.size, 2, none⟩ = some (.int .i64 r) := (hb1.cell (p := ⟨w.heap.size, 2, none⟩) (by first | (go_size; done) | (simp; done) | (simp <;> omega))).trans (by go_simp)
  have f4 : w1.cell? ⟨w.heap.size, 3, none⟩ = some (.int .i64 s) := (hb1.cell (p := ⟨w.heap.size, 3, none⟩) (by first | (go_size; done) | (simp; done) | (simp <;> omega))).trans (by go_simp)
  have l5 : w.heap.size < w1.heap.size := World.block_lt_of_cell? _ _ f1
  have hZ1 := hB1.size
  go_wp2_with fail
  refine (sPos_any _ _ _ _ _ _).mono ?_
  rintro en w2 ⟨rfl, hb2⟩
  have hB2 : Below w1.heap.size w1 w2 := by first | exact hb2 | exact Below.trans (by (go_grown; done)) (hb2.mono (by (go_size; done)))
  have f6 := later hB2 f1
  have f7 := later hB2 f2
  have f8 := later hB2 f3
  have f9 := later hB2 f4
  have l10 : w.heap.size < w2.heap.size := World.block_lt_of_cell? _ _ f6
  have hW2 := bseq hB1 (hB2)
  have hZ2 := hW2.size
  go_wp2_with fail
  refine (toTrack_any _ _ _ _ _).mono ?_
  rintro en w3 ⟨rfl, hb3⟩
  have hB3 : Below w2.heap.size w2 w3 := by first | exact hb3 | exact Below.trans (by (go_grown; done)) (hb3.mono (by (go_size; done)))
  have f11 := later hB3 f6
  have f12 := later hB3 f7
  have f13 := later hB3 f8
  have f14 := later hB3 f9
  have f15 : w3.cell? ⟨w2.heap.size, 0, none⟩ = some (.int .i64 (posX p q r s t)) := (hb3.cell (p := ⟨w2.heap.size, 0, none⟩) (by first | (go_size; done) | (simp; done) | (simp <;> omega))).trans (by go_simp)
  have f16 : w3.cell? ⟨w2.heap.size, 1, none⟩ = some (.int .i64 (posY p q r s t)) := (hb3.cell (p := ⟨w2.heap.size, 1, none⟩) (by first | (go_size; done) | (simp; done) | (simp <;> omega))).trans (by go_simp)
  have l17 : w.heap.size < w3.heap.size := World.block_lt_of_cell? _ _ f11
  have l18 : w2.heap.size < w3.heap.size := World.block_lt_of_cell? _ _ f15
  have hW3 := bseq hB1 (bseq hB2 (hB3))
  have hZ3 := hW3.size
  go_wp2_with fail
  refine (iPos_any _ _ _ _ _ _).mono ?_
  rintro en w4 ⟨rfl, hb4⟩
  have hB4 : Below w3.heap.size w3 w4 := by first | exact hb4 | exact Below.trans (by (go_grown; done)) (hb4.mono (by (go_size; done)))
  have f19 := later hB4 f11
  have f20 := later hB4 f12
  have f21 := later hB4 f13
  have f22 := later hB4 f14
  have f23 := later hB4 f15
  have f24 := later hB4 f16
  have l25 : w.heap.size < w4.heap.size := World.block_lt_of_cell? _ _ f19
  have l26 : w2.heap.size < w4.heap.size := World.block_lt_of_cell? _ _ f23
  have hW4 := bseq hB1 (bseq hB2 (bseq hB3 (hB4)))
  have hZ4 := hW4.size
  go_wp2_with fail
  refine (eqPoint_any _ _ _).mono ?_
  rintro en w5 ⟨rfl, hb5⟩
  have hB5 : Below w4.heap.size w4 w5 := by first | exact hb5 | exact Below.trans (by (go_grown; done)) (hb5.mono (by (go_size; done)))
  have f27 := later hB5 f19
  have f28 := later hB5 f20
  have f29 := later hB5 f21
  have f30 := later hB5 f22
  have f31 := later hB5 f23
  have f32 := later hB5 f24
  have l33 : w.heap.size < w5.heap.size := World.block_lt_of_cell? _ _ f27
  have l34 : w2.heap.size < w5.heap.size := World.block_lt_of_cell? _ _ f31
  have hW5 := bseq hB1 (bseq hB2 (bseq hB3 (bseq hB4 (hB5))))
  have hZ5 := hW5.size
  go_wp2
  go_ret
  exact ⟨rfl, hW5⟩
end Go.Proofs.Ytoccglmlpobeeaa
