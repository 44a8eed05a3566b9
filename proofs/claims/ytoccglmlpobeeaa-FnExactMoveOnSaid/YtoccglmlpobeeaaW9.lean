/- walks: MoveOn, its answer -/
import Derived.Test.YtoccglmlpobeeaaW8
set_option linter.unusedVariables false
set_option linter.unusedSimpArgs false
namespace Go.Proofs.Ytoccglmlpobeeaa
open Go.RowKit
set_option maxHeartbeats 8000000 in
theorem iMv_any (x y vx vy s k : Int) (w : World) :
    Calls Try.prog 48 #[.agg #[.int .i64 x, .int .i64 y, .int .i64 vx, .int .i64 vy, .int .i64 s], .int .i64 k] w fun en w9 => en = .returned (.tuple #[.agg #[.int .i64 (mvV x y vx vy s k (x + k * vx)), .int .i64 (mvV x y vx vy s k (y + k * vy)), .int .i64 (mvV x y vx vy s k (vx)), .int .i64 (mvV x y vx vy s k (vy)), .int .i64 (mvV x y vx vy s k (mvS s k))], .int .i64 (mvCode x y vx vy s k)]) ∧ Below w.heap.size w w9 := by
  rcases Bool.eq_false_or_eq_true (isMot x y vx vy s) with h1 | h1
  · rcases Bool.eq_false_or_eq_true (inR k 0 100) with h2 | h2
    · have hk := inR_iff.1 h2
      have HM := mv_mot h1 h2
      rcases Bool.eq_false_or_eq_true (mvIn x y vx vy k) with h3 | h3
      · have HV : Hid (mvV x y vx vy s k (x + k * vx) = x + k * vx ∧ mvV x y vx vy s k (y + k * vy) = y + k * vy ∧ mvV x y vx vy s k (vx) = vx ∧ mvV x y vx vy s k (vy) = vy ∧ mvV x y vx vy s k (mvS s k) = mvS s k ∧ mvCode x y vx vy s k = 0) := by show _ ∧ _; simp [mvV, mvCode, mvOk, h1, h2, h3]
        rw [h3] at HM
        go_enter Try.func48, Try.ntmps48
        go_wp2_with fail
        refine (iMotion_any _ _ _ _ _ _).mono ?_
        rintro en w1 ⟨rfl, hb1⟩
        have hB1 : Below w.heap.size w w1 := by first | exact hb1 | exact Below.trans (by (go_grown; done)) (hb1.mono (by (go_size; done)))
        have f1 : w1.cell? ⟨w.heap.size + 1, 0, none⟩ = some (.int .i64 0) := (hb1.cell (p := ⟨w.heap.size + 1, 0, none⟩) (by first | (go_size; done) | (simp; done) | (simp <;> omega))).trans (by go_simp)
        have z1 : w1.frozen? ⟨w.heap.size + 1, 0, none⟩ = false := (hb1.frozen (p := ⟨w.heap.size + 1, 0, none⟩) (by first | (go_size; done) | (simp; done) | (simp <;> omega))).trans (by go_simp)
        have f2 : w1.cell? ⟨w.heap.size + 1, 1, none⟩ = some (.int .i64 0) := (hb1.cell (p := ⟨w.heap.size + 1, 1, none⟩) (by first | (go_size; done) | (simp; done) | (simp <;> omega))).trans (by go_simp)
        have z2 : w1.frozen? ⟨w.heap.size + 1, 1, none⟩ = false := (hb1.frozen (p := ⟨w.heap.size + 1, 1, none⟩) (by first | (go_size; done) | (simp; done) | (simp <;> omega))).trans (by go_simp)
        have f3 : w1.cell? ⟨w.heap.size + 1, 2, none⟩ = some (.int .i64 0) := (hb1.cell (p := ⟨w.heap.size + 1, 2, none⟩) (by first | (go_size; done) | (simp; done) | (simp <;> omega))).trans (by go_simp)
        have z3 : w1.frozen? ⟨w.heap.size + 1, 2, none⟩ = false := (hb1.frozen (p := ⟨w.heap.size + 1, 2, none⟩) (by first | (go_size; done) | (simp; done) | (simp <;> omega))).trans (by go_simp)
        have f4 : w1.cell? ⟨w.heap.size + 1, 3, none⟩ = some (.int .i64 0) := (hb1.cell (p := ⟨w.heap.size + 1, 3, none⟩) (by first | (go_size; done) | (simp; done) | (simp <;> omega))).trans (by go_simp)
        have z4 : w1.frozen? ⟨w.heap.size + 1, 3, none⟩ = false := (hb1.frozen (p := ⟨w.heap.size + 1, 3, none⟩) (by first | (go_size; done) | (simp; done) | (simp <;> omega))).trans (by go_simp)
        have f5 : w1.cell? ⟨w.heap.size + 1, 4, none⟩ = some (.int .i64 0) := (hb1.cell (p := ⟨w.heap.size + 1, 4, none⟩) (by first | (go_size; done) | (simp; done) | (simp <;> omega))).trans (by go_simp)
        have z5 : w1.frozen? ⟨w.heap.size + 1, 4, none⟩ = false := (hb1.frozen (p := ⟨w.heap.size + 1, 4, none⟩) (by first | (go_size; done) | (simp; done) | (simp <;> omega))).trans (by go_simp)
        have f6 : w1.cell? ⟨w.heap.size, 0, none⟩ = some (.int .i64 x) := (hb1.cell (p := ⟨w.heap.size, 0, none⟩) (by first | (go_size; done) | (simp; done) | (simp <;> omega))).trans (by go_simp)
        have f7 : w1.cell? ⟨w.heap.size, 1, none⟩ = some (.int .i64 y) := (hb1.cell (p := ⟨w.heap.size, 1, none⟩) (by first | (go_size; done) | (simp; done) | (simp <;> omega))).trans (by go_simp)
        have f8 : w1.cell? ⟨w.heap.size, 2, none⟩ = some (.int .i64 vx) := (hb1.cell (p := ⟨w.heap.size, 2, none⟩) (by first | (go_size; done) | (simp; done) | (simp <;> omega))).trans (by go_simp)
        have f9 : w1.cell? ⟨w.heap.size, 3, none⟩ = some (.int .i64 vy) := (hb1.cell (p := ⟨w.heap.size, 3, none⟩) (by first | (go_size; done) | (simp; done) | (simp <;> omega))).trans (by go_simp)
        have f10 : w1.cell? ⟨w.heap.size, 4, none⟩ = some (.int .i64 s) := (hb1.cell (p := ⟨w.heap.size, 4, none⟩) (by first | (go_size; done) | (simp; done) | (simp <;> omega))).trans (by go_simp)
        have l11 : w.heap.size + 1 < w1.heap.size := World.block_lt_of_cell? _ _ f1
        have l12 : w.heap.size < w1.heap.size := World.block_lt_of_cell? _ _ f6
        have hZ1 := hB1.size
        go_wp2_with (first | (go_at_call 76; refine (within_any _ _ _ _).mono ?_; rintro en w1 ⟨rfl, rfl⟩))
        refine (iMove_any _ _ _ _ _ _ _ h1 (by omega) (by omega)).mono ?_
        rintro en w2 ⟨rfl, hb2⟩
        have hB2 : Below w1.heap.size w1 w2 := by first | exact hb2 | exact Below.trans (by (go_grown; done)) (hb2.mono (by (go_size; done)))
        have f13 := later hB2 f1
        have z13 := laterF hB2 f1 z1
        have f14 := later hB2 f2
        have z14 := laterF hB2 f2 z2
        have f15 := later hB2 f3
        have z15 := laterF hB2 f3 z3
        have f16 := later hB2 f4
        have z16 := laterF hB2 f4 z4
        have f17 := later hB2 f5
        have z17 := laterF hB2 f5 z5
        have f18 := later hB2 f6
        have f19 := later hB2 f7
        have f20 := later hB2 f8
        have f21 := later hB2 f9
        have f22 := later hB2 f10
        have l23 : w.heap.size + 1 < w2.heap.size := World.block_lt_of_cell? _ _ f13
        have l24 : w.heap.size < w2.heap.size := World.block_lt_of_cell? _ _ f18
        have hW2 := bseq hB1 (hB2)
        have hZ2 := hW2.size
        go_wp2
        refine bodyPost_ret (v := .tuple #[.agg #[.int .i64 (mvV x y vx vy s k (x + k * vx)), .int .i64 (mvV x y vx vy s k (y + k * vy)), .int .i64 (mvV x y vx vy s k (vx)), .int .i64 (mvV x y vx vy s k (vy)), .int .i64 (mvV x y vx vy s k (mvS s k))], .int .i64 (mvCode x y vx vy s k)]) (by rw [HV.out.1, HV.out.2.1, HV.out.2.2.1, HV.out.2.2.2.1, HV.out.2.2.2.2.1, HV.out.2.2.2.2.2]; simp [results, Try.results48, go_sem, f13, f14, f15, f16, f17, f18, f19, f20, f21, f22, z13, z14, z15, z16, z17, l23, Nat.ne_of_lt l23, l24, Nat.ne_of_lt l24]) rfl ⟨rfl, by have hx := hW2; go_grown⟩
      · have HV : Hid (mvV x y vx vy s k (x + k * vx) = 0 ∧ mvV x y vx vy s k (y + k * vy) = 0 ∧ mvV x y vx vy s k (vx) = 0 ∧ mvV x y vx vy s k (vy) = 0 ∧ mvV x y vx vy s k (mvS s k) = 0 ∧ mvCode x y vx vy s k = 5) := by show _ ∧ _; simp [mvV, mvCode, mvOk, h1, h2, h3]
        rw [h3] at HM
        go_enter Try.func48, Try.ntmps48
        go_wp2_with fail
        refine (iMotion_any _ _ _ _ _ _).mono ?_
        rintro en w1 ⟨rfl, hb1⟩
        have hB1 : Below w.heap.size w w1 := by first | exact hb1 | exact Below.trans (by (go_grown; done)) (hb1.mono (by (go_size; done)))
        have f1 : w1.cell? ⟨w.heap.size + 1, 0, none⟩ = some (.int .i64 0) := (hb1.cell (p := ⟨w.heap.size + 1, 0, none⟩) (by first | (go_size; done) | (simp; done) | (simp <;> omega))).trans (by go_simp)
        have z1 : w1.frozen? ⟨w.heap.size + 1, 0, none⟩ = false := (hb1.frozen (p := ⟨w.heap.size + 1, 0, none⟩) (by first | (go_size; done) | (simp; done) | (simp <;> omega))).trans (by go_simp)
        have f2 : w1.cell? ⟨w.heap.size + 1, 1, none⟩ = some (.int .i64 0) := (hb1.cell (p := ⟨w.heap.size + 1, 1, none⟩) (by first | (go_size; done) | (simp; done) | (simp <;> omega))).trans (by go_simp)
        have z2 : w1.frozen? ⟨w.heap.size + 1, 1, none⟩ = false := (hb1.frozen (p := ⟨w.heap.size + 1, 1, none⟩) (by first | (go_size; done) | (simp; done) | (simp <;> omega))).trans (by go_simp)
        have f3 : w1.cell? ⟨w.heap.size + 1, 2, none⟩ = some (.int .i64 0) := (hb1.cell (p := ⟨w.heap.size + 1, 2, none⟩) (by first | (go_size; done) | (simp; done) | (simp <;> omega))).trans (by go_simp)
        have z3 : w1.frozen? ⟨w.heap.size + 1, 2, none⟩ = false := (hb1.frozen (p := ⟨w.heap.size + 1, 2, none⟩) (by first | (go_size; done) | (simp; done) | (simp <;> omega))).trans (by go_simp)
        have f4 : w1.cell? ⟨w.heap.size + 1, 3, none⟩ = some (.int .i64 0) := (hb1.cell (p := ⟨w.heap.size + 1, 3, none⟩) (by first | (go_size; done) | (simp; done) | (simp <;> omega))).trans (by go_simp)
        have z4 : w1.frozen? ⟨w.heap.size + 1, 3, none⟩ = false := (hb1.frozen (p := ⟨w.heap.size + 1, 3, none⟩) (by first | (go_size; done) | (simp; done) | (simp <;> omega))).trans (by go_simp)
        have f5 : w1.cell? ⟨w.heap.size + 1, 4, none⟩ = some (.int .i64 0) := (hb1.cell (p := ⟨w.heap.size + 1, 4, none⟩) (by first | (go_size; done) | (simp; done) | (simp <;> omega))).trans (by go_simp)
        have z5 : w1.frozen? ⟨w.heap.size + 1, 4, none⟩ = false := (hb1.frozen (p := ⟨w.heap.size + 1, 4, none⟩) (by first | (go_size; done) | (simp; done) | (simp <;> omega))).trans (by go_simp)
        have f6 : w1.cell? ⟨w.heap.size, 0, none⟩ = some (.int .i64 x) := (hb1.cell (p := ⟨w.heap.size, 0, none⟩) (by first | (go_size; done) | (simp; done) | (simp <;> omega))).trans (by go_simp)
        have f7 : w1.cell? ⟨w.heap.size, 1, none⟩ = some (.int .i64 y) := (hb1.cell (p := ⟨w.heap.size, 1, none⟩) (by first | (go_size; done) | (simp; done) | (simp <;> omega))).trans (by go_simp)
        have f8 : w1.cell? ⟨w.heap.size, 2, none⟩ = some (.int .i64 vx) := (hb1.cell (p := ⟨w.heap.size, 2, none⟩) (by first | (go_size; done) | (simp; done) | (simp <;> omega))).trans (by go_simp)
        have f9 : w1.cell? ⟨w.heap.size, 3, none⟩ = some (.int .i64 vy) := (hb1.cell (p := ⟨w.heap.size, 3, none⟩) (by first | (go_size; done) | (simp; done) | (simp <;> omega))).trans (by go_simp)
        have f10 : w1.cell? ⟨w.heap.size, 4, none⟩ = some (.int .i64 s) := (hb1.cell (p := ⟨w.heap.size, 4, none⟩) (by first | (go_size; done) | (simp; done) | (simp <;> omega))).trans (by go_simp)
        have l11 : w.heap.size + 1 < w1.heap.size := World.block_lt_of_cell? _ _ f1
        have l12 : w.heap.size < w1.heap.size := World.block_lt_of_cell? _ _ f6
        have hZ1 := hB1.size
        go_wp2_with (first | (go_at_call 76; refine (within_any _ _ _ _).mono ?_; rintro en w1 ⟨rfl, rfl⟩))
        refine (iMove_any _ _ _ _ _ _ _ h1 (by omega) (by omega)).mono ?_
        rintro en w2 ⟨rfl, hb2⟩
        have hB2 : Below w1.heap.size w1 w2 := by first | exact hb2 | exact Below.trans (by (go_grown; done)) (hb2.mono (by (go_size; done)))
        have f13 := later hB2 f1
        have z13 := laterF hB2 f1 z1
        have f14 := later hB2 f2
        have z14 := laterF hB2 f2 z2
        have f15 := later hB2 f3
        have z15 := laterF hB2 f3 z3
        have f16 := later hB2 f4
        have z16 := laterF hB2 f4 z4
        have f17 := later hB2 f5
        have z17 := laterF hB2 f5 z5
        have f18 := later hB2 f6
        have f19 := later hB2 f7
        have f20 := later hB2 f8
        have f21 := later hB2 f9
        have f22 := later hB2 f10
        have l23 : w.heap.size + 1 < w2.heap.size := World.block_lt_of_cell? _ _ f13
        have l24 : w.heap.size < w2.heap.size := World.block_lt_of_cell? _ _ f18
        have hW2 := bseq hB1 (hB2)
        have hZ2 := hW2.size
        go_wp2
        refine bodyPost_ret (v := .tuple #[.agg #[.int .i64 (mvV x y vx vy s k (x + k * vx)), .int .i64 (mvV x y vx vy s k (y + k * vy)), .int .i64 (mvV x y vx vy s k (vx)), .int .i64 (mvV x y vx vy s k (vy)), .int .i64 (mvV x y vx vy s k (mvS s k))], .int .i64 (mvCode x y vx vy s k)]) (by rw [HV.out.1, HV.out.2.1, HV.out.2.2.1, HV.out.2.2.2.1, HV.out.2.2.2.2.1, HV.out.2.2.2.2.2]; simp [results, Try.results48, go_sem, f13, f14, f15, f16, f17, f18, f19, f20, f21, f22, z13, z14, z15, z16, z17, l23, Nat.ne_of_lt l23, l24, Nat.ne_of_lt l24]) rfl ⟨rfl, by have hx := hW2; go_grown⟩
    · have HV : Hid (mvV x y vx vy s k (x + k * vx) = 0 ∧ mvV x y vx vy s k (y + k * vy) = 0 ∧ mvV x y vx vy s k (vx) = 0 ∧ mvV x y vx vy s k (vy) = 0 ∧ mvV x y vx vy s k (mvS s k) = 0 ∧ mvCode x y vx vy s k = 2) := by show _ ∧ _; simp [mvV, mvCode, mvOk, h1, h2]
      go_enter Try.func48, Try.ntmps48
      go_wp2_with fail
      refine (iMotion_any _ _ _ _ _ _).mono ?_
      rintro en w1 ⟨rfl, hb1⟩
      have hB1 : Below w.heap.size w w1 := by first | exact hb1 | exact Below.trans (by (go_grown; done)) (hb1.mono (by (go_size; done)))
      have f1 : w1.cell? ⟨w.heap.size + 1, 0, none⟩ = some (.int .i64 0) := (hb1.cell (p := ⟨w.heap.size + 1, 0, none⟩) (by first | (go_size; done) | (simp; done) | (simp <;> omega))).trans (by go_simp)
      have z1 : w1.frozen? ⟨w.heap.size + 1, 0, none⟩ = false := (hb1.frozen (p := ⟨w.heap.size + 1, 0, none⟩) (by first | (go_size; done) | (simp; done) | (simp <;> omega))).trans (by go_simp)
      have f2 : w1.cell? ⟨w.heap.size + 1, 1, none⟩ = some (.int .i64 0) := (hb1.cell (p := ⟨w.heap.size + 1, 1, none⟩) (by first | (go_size; done) | (simp; done) | (simp <;> omega))).trans (by go_simp)
      have z2 : w1.frozen? ⟨w.heap.size + 1, 1, none⟩ = false := (hb1.frozen (p := ⟨w.heap.size + 1, 1, none⟩) (by first | (go_size; done) | (simp; done) | (simp <;> omega))).trans (by go_simp)
      have f3 : w1.cell? ⟨w.heap.size + 1, 2, none⟩ = some (.int .i64 0) := (hb1.cell (p := ⟨w.heap.size + 1, 2, none⟩) (by first | (go_size; done) | (simp; done) | (simp <;> omega))).trans (by go_simp)
      have z3 : w1.frozen? ⟨w.heap.size + 1, 2, none⟩ = false := (hb1.frozen (p := ⟨w.heap.size + 1, 2, none⟩) (by first | (go_size; done) | (simp; done) | (simp <;> omega))).trans (by go_simp)
      have f4 : w1.cell? ⟨w.heap.size + 1, 3, none⟩ = some (.int .i64 0) := (hb1.cell (p := ⟨w.heap.size + 1, 3, none⟩) (by first | (go_size; done) | (simp; done) | (simp <;> omega))).trans (by go_simp)
      have z4 : w1.frozen? ⟨w.heap.size + 1, 3, none⟩ = false := (hb1.frozen (p := ⟨w.heap.size + 1, 3, none⟩) (by first | (go_size; done) | (simp; done) | (simp <;> omega))).trans (by go_simp)
      have f5 : w1.cell? ⟨w.heap.size + 1, 4, none⟩ = some (.int .i64 0) := (hb1.cell (p := ⟨w.heap.size + 1, 4, none⟩) (by first | (go_size; done) | (simp; done) | (simp <;> omega))).trans (by go_simp)
      have z5 : w1.frozen? ⟨w.heap.size + 1, 4, none⟩ = false := (hb1.frozen (p := ⟨w.heap.size + 1, 4, none⟩) (by first | (go_size; done) | (simp; done) | (simp <;> omega))).trans (by go_simp)
      have f6 : w1.cell? ⟨w.heap.size, 0, none⟩ = some (.int .i64 x) := (hb1.cell (p := ⟨w.heap.size, 0, none⟩) (by first | (go_size; done) | (simp; done) | (simp <;> omega))).trans (by go_simp)
      have f7 : w1.cell? ⟨w.heap.size, 1, none⟩ = some (.int .i64 y) := (hb1.cell (p := ⟨w.heap.size, 1, none⟩) (by first | (go_size; done) | (simp; done) | (simp <;> omega))).trans (by go_simp)
      have f8 : w1.cell? ⟨w.heap.size, 2, none⟩ = some (.int .i64 vx) := (hb1.cell (p := ⟨w.heap.size, 2, none⟩) (by first | (go_size; done) | (simp; done) | (simp <;> omega))).trans (by go_simp)
      have f9 : w1.cell? ⟨w.heap.size, 3, none⟩ = some (.int .i64 vy) := (hb1.cell (p := ⟨w.heap.size, 3, none⟩) (by first | (go_size; done) | (simp; done) | (simp <;> omega))).trans (by go_simp)
      have f10 : w1.cell? ⟨w.heap.size, 4, none⟩ = some (.int .i64 s) := (hb1.cell (p := ⟨w.heap.size, 4, none⟩) (by first | (go_size; done) | (simp; done) | (simp <;> omega))).trans (by go_simp)
      have l11 : w.heap.size + 1 < w1.heap.size := World.block_lt_of_cell? _ _ f1
      have l12 : w.heap.size < w1.heap.size := World.block_lt_of_cell? _ _ f6
      have hZ1 := hB1.size
      go_wp2_with (first | (go_at_call 76; refine (within_any _ _ _ _).mono ?_; rintro en w1 ⟨rfl, rfl⟩))
      refine bodyPost_ret (v := .tuple #[.agg #[.int .i64 (mvV x y vx vy s k (x + k * vx)), .int .i64 (mvV x y vx vy s k (y + k * vy)), .int .i64 (mvV x y vx vy s k (vx)), .int .i64 (mvV x y vx vy s k (vy)), .int .i64 (mvV x y vx vy s k (mvS s k))], .int .i64 (mvCode x y vx vy s k)]) (by rw [HV.out.1, HV.out.2.1, HV.out.2.2.1, HV.out.2.2.2.1, HV.out.2.2.2.2.1, HV.out.2.2.2.2.2]; simp [results, Try.results48, go_sem, f1, f2, f3, f4, f5, f6, f7, f8, f9, f10, z1, z2, z3, z4, z5, l11, Nat.ne_of_lt l11, l12, Nat.ne_of_lt l12]) rfl ⟨rfl, by have hx := hB1; go_grown⟩
  · have HV : Hid (mvV x y vx vy s k (x + k * vx) = 0 ∧ mvV x y vx vy s k (y + k * vy) = 0 ∧ mvV x y vx vy s k (vx) = 0 ∧ mvV x y vx vy s k (vy) = 0 ∧ mvV x y vx vy s k (mvS s k) = 0 ∧ mvCode x y vx vy s k = 1) := by show _ ∧ _; simp [mvV, mvCode, mvOk, h1]
    go_enter Try.func48, Try.ntmps48
    go_wp2_with fail
    refine (iMotion_any _ _ _ _ _ _).mono ?_
    rintro en w1 ⟨rfl, hb1⟩
    have hB1 : Below w.heap.size w w1 := by first | exact hb1 | exact Below.trans (by (go_grown; done)) (hb1.mono (by (go_size; done)))
    have f1 : w1.cell? ⟨w.heap.size + 1, 0, none⟩ = some (.int .i64 0) := (hb1.cell (p := ⟨w.heap.size + 1, 0, none⟩) (by first | (go_size; done) | (simp; done) | (simp <;> omega))).trans (by go_simp)
    have z1 : w1.frozen? ⟨w.heap.size + 1, 0, none⟩ = false := (hb1.frozen (p := ⟨w.heap.size + 1, 0, none⟩) (by first | (go_size; done) | (simp; done) | (simp <;> omega))).trans (by go_simp)
    have f2 : w1.cell? ⟨w.heap.size + 1, 1, none⟩ = some (.int .i64 0) := (hb1.cell (p := ⟨w.heap.size + 1, 1, none⟩) (by first | (go_size; done) | (simp; done) | (simp <;> omega))).trans (by go_simp)
    have z2 : w1.frozen? ⟨w.heap.size + 1, 1, none⟩ = false := (hb1.frozen (p := ⟨w.heap.size + 1, 1, none⟩) (by first | (go_size; done) | (simp; done) | (simp <;> omega))).trans (by go_simp)
    have f3 : w1.cell? ⟨w.heap.size + 1, 2, none⟩ = some (.int .i64 0) := (hb1.cell (p := ⟨w.heap.size + 1, 2, none⟩) (by first | (go_size; done) | (simp; done) | (simp <;> omega))).trans (by go_simp)
    have z3 : w1.frozen? ⟨w.heap.size + 1, 2, none⟩ = false := (hb1.frozen (p := ⟨w.heap.size + 1, 2, none⟩) (by first | (go_size; done) | (simp; done) | (simp <;> omega))).trans (by go_simp)
    have f4 : w1.cell? ⟨w.heap.size + 1, 3, none⟩ = some (.int .i64 0) := (hb1.cell (p := ⟨w.heap.size + 1, 3, none⟩) (by first | (go_size; done) | (simp; done) | (simp <;> omega))).trans (by go_simp)
    have z4 : w1.frozen? ⟨w.heap.size + 1, 3, none⟩ = false := (hb1.frozen (p := ⟨w.heap.size + 1, 3, none⟩) (by first | (go_size; done) | (simp; done) | (simp <;> omega))).trans (by go_simp)
    have f5 : w1.cell? ⟨w.heap.size + 1, 4, none⟩ = some (.int .i64 0) := (hb1.cell (p := ⟨w.heap.size + 1, 4, none⟩) (by first | (go_size; done) | (simp; done) | (simp <;> omega))).trans (by go_simp)
    have z5 : w1.frozen? ⟨w.heap.size + 1, 4, none⟩ = false := (hb1.frozen (p := ⟨w.heap.size + 1, 4, none⟩) (by first | (go_size; done) | (simp; done) | (simp <;> omega))).trans (by go_simp)
    have f6 : w1.cell? ⟨w.heap.size, 0, none⟩ = some (.int .i64 x) := (hb1.cell (p := ⟨w.heap.size, 0, none⟩) (by first | (go_size; done) | (simp; done) | (simp <;> omega))).trans (by go_simp)
    have f7 : w1.cell? ⟨w.heap.size, 1, none⟩ = some (.int .i64 y) := (hb1.cell (p := ⟨w.heap.size, 1, none⟩) (by first | (go_size; done) | (simp; done) | (simp <;> omega))).trans (by go_simp)
    have f8 : w1.cell? ⟨w.heap.size, 2, none⟩ = some (.int .i64 vx) := (hb1.cell (p := ⟨w.heap.size, 2, none⟩) (by first | (go_size; done) | (simp; done) | (simp <;> omega))).trans (by go_simp)
    have f9 : w1.cell? ⟨w.heap.size, 3, none⟩ = some (.int .i64 vy) := (hb1.cell (p := ⟨w.heap.size, 3, none⟩) (by first | (go_size; done) | (simp; done) | (simp <;> omega))).trans (by go_simp)
    have f10 : w1.cell? ⟨w.heap.size, 4, none⟩ = some (.int .i64 s) := (hb1.cell (p := ⟨w.heap.size, 4, none⟩) (by first | (go_size; done) | (simp; done) | (simp <;> omega))).trans (by go_simp)
    have l11 : w.heap.size + 1 < w1.heap.size := World.block_lt_of_cell? _ _ f1
    have l12 : w.heap.size < w1.heap.size := World.block_lt_of_cell? _ _ f6
    have hZ1 := hB1.size
    go_wp2_with (first | (go_at_call 76; refine (within_any _ _ _ _).mono ?_; rintro en w1 ⟨rfl, rfl⟩))
    refine bodyPost_ret (v := .tuple #[.agg #[.int .i64 (mvV x y vx vy s k (x + k * vx)), .int .i64 (mvV x y vx vy s k (y + k * vy)), .int .i64 (mvV x y vx vy s k (vx)), .int .i64 (mvV x y vx vy s k (vy)), .int .i64 (mvV x y vx vy s k (mvS s k))], .int .i64 (mvCode x y vx vy s k)]) (by rw [HV.out.1, HV.out.2.1, HV.out.2.2.1, HV.out.2.2.2.1, HV.out.2.2.2.2.1, HV.out.2.2.2.2.2]; simp [results, Try.results48, go_sem, f1, f2, f3, f4, f5, f6, f7, f8, f9, f10, z1, z2, z3, z4, z5, l11, Nat.ne_of_lt l11, l12, Nat.ne_of_lt l12]) rfl ⟨rfl, by have hx := hB1; go_grown⟩
set_option maxHeartbeats 8000000 in
theorem sMv_any (x y vx vy s k : Int) (w : World) :
    Calls Try.prog 47 #[.agg #[.int .i64 x, .int .i64 y, .int .i64 vx, .int .i64 vy, .int .i64 s], .int .i64 k] w fun en w9 => en = .returned (.tuple #[.agg #[.int .i64 (mvV x y vx vy s k (x + k * vx)), .int .i64 (mvV x y vx vy s k (y + k * vy)), .int .i64 (mvV x y vx vy s k (vx)), .int .i64 (mvV x y vx vy s k (vy)), .int .i64 (mvV x y vx vy s k (mvS s k))], .int .i64 (mvCode x y vx vy s k)]) ∧ Below w.heap.size w w9 := by
  rcases Bool.eq_false_or_eq_true (isMot x y vx vy s) with h1 | h1
  · rcases Bool.eq_false_or_eq_true (inR k 0 100) with h2 | h2
    · have hk := inR_iff.1 h2
      have HM := mv_mot h1 h2
      rcases Bool.eq_false_or_eq_true (mvIn x y vx vy k) with h3 | h3
      · have HV : Hid (mvV x y vx vy s k (x + k * vx) = x + k * vx ∧ mvV x y vx vy s k (y + k * vy) = y + k * vy ∧ mvV x y vx vy s k (vx) = vx ∧ mvV x y vx vy s k (vy) = vy ∧ mvV x y vx vy s k (mvS s k) = mvS s k ∧ mvCode x y vx vy s k = 0) := by show _ ∧ _; simp [mvV, mvCode, mvOk, h1, h2, h3]
        rw [h3] at HM
        go_enter Try.func47, Try.ntmps47
        go_wp2_with fail
        refine (sMotion_any _ _ _ _ _ _).mono ?_
        rintro en w1 ⟨rfl, hb1⟩
        have hB1 : Below w.heap.size w w1 := by first | exact hb1 | exact Below.trans (by (go_grown; done)) (hb1.mono (by (go_size; done)))
        have f1 : w1.cell? ⟨w.heap.size + 1, 0, none⟩ = some (.int .i64 0) := (hb1.cell (p := ⟨w.heap.size + 1, 0, none⟩) (by first | (go_size; done) | (simp; done) | (simp <;> omega))).trans (by go_simp)
        have z1 : w1.frozen? ⟨w.heap.size + 1, 0, none⟩ = false := (hb1.frozen (p := ⟨w.heap.size + 1, 0, none⟩) (by first | (go_size; done) | (simp; done) | (simp <;> omega))).trans (by go_simp)
        have f2 : w1.cell? ⟨w.heap.size + 1, 1, none⟩ = some (.int .i64 0) := (hb1.cell (p := ⟨w.heap.size + 1, 1, none⟩) (by first | (go_size; done) | (simp; done) | (simp <;> omega))).trans (by go_simp)
        have z2 : w1.frozen? ⟨w.heap.size + 1, 1, none⟩ = false := (hb1.frozen (p := ⟨w.heap.size + 1, 1, none⟩) (by first | (go_size; done) | (simp; done) | (simp <;> omega))).trans (by go_simp)
        have f3 : w1.cell? ⟨w.heap.size + 1, 2, none⟩ = some (.int .i64 0) := (hb1.cell (p := ⟨w.heap.size + 1, 2, none⟩) (by first | (go_size; done) | (simp; done) | (simp <;> omega))).trans (by go_simp)
        have z3 : w1.frozen? ⟨w.heap.size + 1, 2, none⟩ = false := (hb1.frozen (p := ⟨w.heap.size + 1, 2, none⟩) (by first | (go_size; done) | (simp; done) | (simp <;> omega))).trans (by go_simp)
        have f4 : w1.cell? ⟨w.heap.size + 1, 3, none⟩ = some (.int .i64 0) := (hb1.cell (p := ⟨w.heap.size + 1, 3, none⟩) (by first | (go_size; done) | (simp; done) | (simp <;> omega))).trans (by go_simp)
        have z4 : w1.frozen? ⟨w.heap.size + 1, 3, none⟩ = false := (hb1.frozen (p := ⟨w.heap.size + 1, 3, none⟩) (by first | (go_size; done) | (simp; done) | (simp <;> omega))).trans (by go_simp)
        have f5 : w1.cell? ⟨w.heap.size + 1, 4, none⟩ = some (.int .i64 0) := (hb1.cell (p := ⟨w.heap.size + 1, 4, none⟩) (by first | (go_size; done) | (simp; done) | (simp <;> omega))).trans (by go_simp)
        have z5 : w1.frozen? ⟨w.heap.size + 1, 4, none⟩ = false := (hb1.frozen (p := ⟨w.heap.size + 1, 4, none⟩) (by first | (go_size; done) | (simp; done) | (simp <;> omega))).trans (by go_simp)
        have f6 : w1.cell? ⟨w.heap.size, 0, none⟩ = some (.int .i64 x) := (hb1.cell (p := ⟨w.heap.size, 0, none⟩) (by first | (go_size; done) | (simp; done) | (simp <;> omega))).trans (by go_simp)
        have f7 : w1.cell? ⟨w.heap.size, 1, none⟩ = some (.int .i64 y) := (hb1.cell (p := ⟨w.heap.size, 1, none⟩) (by first | (go_size; done) | (simp; done) | (simp <;> omega))).trans (by go_simp)
        have f8 : w1.cell? ⟨w.heap.size, 2, none⟩ = some (.int .i64 vx) := (hb1.cell (p := ⟨w.heap.size, 2, none⟩) (by first | (go_size; done) | (simp; done) | (simp <;> omega))).trans (by go_simp)
        have f9 : w1.cell? ⟨w.heap.size, 3, none⟩ = some (.int .i64 vy) := (hb1.cell (p := ⟨w.heap.size, 3, none⟩) (by first | (go_size; done) | (simp; done) | (simp <;> omega))).trans (by go_simp)
        have f10 : w1.cell? ⟨w.heap.size, 4, none⟩ = some (.int .i64 s) := (hb1.cell (p := ⟨w.heap.size, 4, none⟩) (by first | (go_size; done) | (simp; done) | (simp <;> omega))).trans (by go_simp)
        have l11 : w.heap.size + 1 < w1.heap.size := World.block_lt_of_cell? _ _ f1
        have l12 : w.heap.size < w1.heap.size := World.block_lt_of_cell? _ _ f6
        have hZ1 := hB1.size
        go_wp2_with (first | (go_at_call 74; refine (l01In_any _ _ _ _).mono ?_; rintro en w1 ⟨rfl, rfl⟩))
        refine (sMove_any _ _ _ _ _ _ _ h1 (by omega) (by omega)).mono ?_
        rintro en w2 ⟨rfl, hb2⟩
        have hB2 : Below w1.heap.size w1 w2 := by first | exact hb2 | exact Below.trans (by (go_grown; done)) (hb2.mono (by (go_size; done)))
        have f13 := later hB2 f1
        have z13 := laterF hB2 f1 z1
        have f14 := later hB2 f2
        have z14 := laterF hB2 f2 z2
        have f15 := later hB2 f3
        have z15 := laterF hB2 f3 z3
        have f16 := later hB2 f4
        have z16 := laterF hB2 f4 z4
        have f17 := later hB2 f5
        have z17 := laterF hB2 f5 z5
        have f18 := later hB2 f6
        have f19 := later hB2 f7
        have f20 := later hB2 f8
        have f21 := later hB2 f9
        have f22 := later hB2 f10
        have l23 : w.heap.size + 1 < w2.heap.size := World.block_lt_of_cell? _ _ f13
        have l24 : w.heap.size < w2.heap.size := World.block_lt_of_cell? _ _ f18
        have hW2 := bseq hB1 (hB2)
        have hZ2 := hW2.size
        go_wp2_with fail
        refine (sMotion_any _ _ _ _ _ _).mono ?_
        rintro en w3 ⟨rfl, hb3⟩
        have hB3 : Below w2.heap.size w2 w3 := by first | exact hb3 | exact Below.trans (by (go_grown; done)) (hb3.mono (by (go_size; done)))
        have f25 := later hB3 f13
        have z25 := laterF hB3 f13 z13
        have f26 := later hB3 f14
        have z26 := laterF hB3 f14 z14
        have f27 := later hB3 f15
        have z27 := laterF hB3 f15 z15
        have f28 := later hB3 f16
        have z28 := laterF hB3 f16 z16
        have f29 := later hB3 f17
        have z29 := laterF hB3 f17 z17
        have f30 := later hB3 f18
        have f31 := later hB3 f19
        have f32 := later hB3 f20
        have f33 := later hB3 f21
        have f34 := later hB3 f22
        have f35 : w3.cell? ⟨w2.heap.size, 0, none⟩ = some (.int .i64 (x + k * vx)) := (hb3.cell (p := ⟨w2.heap.size, 0, none⟩) (by first | (go_size; done) | (simp; done) | (simp <;> omega))).trans (by go_simp)
        have f36 : w3.cell? ⟨w2.heap.size, 1, none⟩ = some (.int .i64 (y + k * vy)) := (hb3.cell (p := ⟨w2.heap.size, 1, none⟩) (by first | (go_size; done) | (simp; done) | (simp <;> omega))).trans (by go_simp)
        have f37 : w3.cell? ⟨w2.heap.size, 2, none⟩ = some (.int .i64 (vx)) := (hb3.cell (p := ⟨w2.heap.size, 2, none⟩) (by first | (go_size; done) | (simp; done) | (simp <;> omega))).trans (by go_simp)
        have f38 : w3.cell? ⟨w2.heap.size, 3, none⟩ = some (.int .i64 (vy)) := (hb3.cell (p := ⟨w2.heap.size, 3, none⟩) (by first | (go_size; done) | (simp; done) | (simp <;> omega))).trans (by go_simp)
        have f39 : w3.cell? ⟨w2.heap.size, 4, none⟩ = some (.int .i64 (mvS s k)) := (hb3.cell (p := ⟨w2.heap.size, 4, none⟩) (by first | (go_size; done) | (simp; done) | (simp <;> omega))).trans (by go_simp)
        have l40 : w.heap.size + 1 < w3.heap.size := World.block_lt_of_cell? _ _ f25
        have l41 : w.heap.size < w3.heap.size := World.block_lt_of_cell? _ _ f30
        have l42 : w2.heap.size < w3.heap.size := World.block_lt_of_cell? _ _ f35
        have hW3 := bseq hB1 (bseq hB2 (hB3))
        have hZ3 := hW3.size
        go_wp2
        refine bodyPost_ret (v := .tuple #[.agg #[.int .i64 (mvV x y vx vy s k (x + k * vx)), .int .i64 (mvV x y vx vy s k (y + k * vy)), .int .i64 (mvV x y vx vy s k (vx)), .int .i64 (mvV x y vx vy s k (vy)), .int .i64 (mvV x y vx vy s k (mvS s k))], .int .i64 (mvCode x y vx vy s k)]) (by rw [HV.out.1, HV.out.2.1, HV.out.2.2.1, HV.out.2.2.2.1, HV.out.2.2.2.2.1, HV.out.2.2.2.2.2]; simp [results, Try.results47, go_sem, f25, f26, f27, f28, f29, f30, f31, f32, f33, f34, f35, f36, f37, f38, f39, z25, z26, z27, z28, z29, l40, Nat.ne_of_lt l40, l41, Nat.ne_of_lt l41, l42, Nat.ne_of_lt l42]) rfl ⟨rfl, by have hx := hW3; go_grown⟩
      · have HV : Hid (mvV x y vx vy s k (x + k * vx) = 0 ∧ mvV x y vx vy s k (y + k * vy) = 0 ∧ mvV x y vx vy s k (vx) = 0 ∧ mvV x y vx vy s k (vy) = 0 ∧ mvV x y vx vy s k (mvS s k) = 0 ∧ mvCode x y vx vy s k = 5) := by show _ ∧ _; simp [mvV, mvCode, mvOk, h1, h2, h3]
        rw [h3] at HM
        go_enter Try.func47, Try.ntmps47
        go_wp2_with fail
        refine (sMotion_any _ _ _ _ _ _).mono ?_
        rintro en w1 ⟨rfl, hb1⟩
        have hB1 : Below w.heap.size w w1 := by first | exact hb1 | exact Below.trans (by (go_grown; done)) (hb1.mono (by (go_size; done)))
        have f1 : w1.cell? ⟨w.heap.size + 1, 0, none⟩ = some (.int .i64 0) := (hb1.cell (p := ⟨w.heap.size + 1, 0, none⟩) (by first | (go_size; done) | (simp; done) | (simp <;> omega))).trans (by go_simp)
        have z1 : w1.frozen? ⟨w.heap.size + 1, 0, none⟩ = false := (hb1.frozen (p := ⟨w.heap.size + 1, 0, none⟩) (by first | (go_size; done) | (simp; done) | (simp <;> omega))).trans (by go_simp)
        have f2 : w1.cell? ⟨w.heap.size + 1, 1, none⟩ = some (.int .i64 0) := (hb1.cell (p := ⟨w.heap.size + 1, 1, none⟩) (by first | (go_size; done) | (simp; done) | (simp <;> omega))).trans (by go_simp)
        have z2 : w1.frozen? ⟨w.heap.size + 1, 1, none⟩ = false := (hb1.frozen (p := ⟨w.heap.size + 1, 1, none⟩) (by first | (go_size; done) | (simp; done) | (simp <;> omega))).trans (by go_simp)
        have f3 : w1.cell? ⟨w.heap.size + 1, 2, none⟩ = some (.int .i64 0) := (hb1.cell (p := ⟨w.heap.size + 1, 2, none⟩) (by first | (go_size; done) | (simp; done) | (simp <;> omega))).trans (by go_simp)
        have z3 : w1.frozen? ⟨w.heap.size + 1, 2, none⟩ = false := (hb1.frozen (p := ⟨w.heap.size + 1, 2, none⟩) (by first | (go_size; done) | (simp; done) | (simp <;> omega))).trans (by go_simp)
        have f4 : w1.cell? ⟨w.heap.size + 1, 3, none⟩ = some (.int .i64 0) := (hb1.cell (p := ⟨w.heap.size + 1, 3, none⟩) (by first | (go_size; done) | (simp; done) | (simp <;> omega))).trans (by go_simp)
        have z4 : w1.frozen? ⟨w.heap.size + 1, 3, none⟩ = false := (hb1.frozen (p := ⟨w.heap.size + 1, 3, none⟩) (by first | (go_size; done) | (simp; done) | (simp <;> omega))).trans (by go_simp)
        have f5 : w1.cell? ⟨w.heap.size + 1, 4, none⟩ = some (.int .i64 0) := (hb1.cell (p := ⟨w.heap.size + 1, 4, none⟩) (by first | (go_size; done) | (simp; done) | (simp <;> omega))).trans (by go_simp)
        have z5 : w1.frozen? ⟨w.heap.size + 1, 4, none⟩ = false := (hb1.frozen (p := ⟨w.heap.size + 1, 4, none⟩) (by first | (go_size; done) | (simp; done) | (simp <;> omega))).trans (by go_simp)
        have f6 : w1.cell? ⟨w.heap.size, 0, none⟩ = some (.int .i64 x) := (hb1.cell (p := ⟨w.heap.size, 0, none⟩) (by first | (go_size; done) | (simp; done) | (simp <;> omega))).trans (by go_simp)
        have f7 : w1.cell? ⟨w.heap.size, 1, none⟩ = some (.int .i64 y) := (hb1.cell (p := ⟨w.heap.size, 1, none⟩) (by first | (go_size; done) | (simp; done) | (simp <;> omega))).trans (by go_simp)
        have f8 : w1.cell? ⟨w.heap.size, 2, none⟩ = some (.int .i64 vx) := (hb1.cell (p := ⟨w.heap.size, 2, none⟩) (by first | (go_size; done) | (simp; done) | (simp <;> omega))).trans (by go_simp)
        have f9 : w1.cell? ⟨w.heap.size, 3, none⟩ = some (.int .i64 vy) := (hb1.cell (p := ⟨w.heap.size, 3, none⟩) (by first | (go_size; done) | (simp; done) | (simp <;> omega))).trans (by go_simp)
        have f10 : w1.cell? ⟨w.heap.size, 4, none⟩ = some (.int .i64 s) := (hb1.cell (p := ⟨w.heap.size, 4, none⟩) (by first | (go_size; done) | (simp; done) | (simp <;> omega))).trans (by go_simp)
        have l11 : w.heap.size + 1 < w1.heap.size := World.block_lt_of_cell? _ _ f1
        have l12 : w.heap.size < w1.heap.size := World.block_lt_of_cell? _ _ f6
        have hZ1 := hB1.size
        go_wp2_with (first | (go_at_call 74; refine (l01In_any _ _ _ _).mono ?_; rintro en w1 ⟨rfl, rfl⟩))
        refine (sMove_any _ _ _ _ _ _ _ h1 (by omega) (by omega)).mono ?_
        rintro en w2 ⟨rfl, hb2⟩
        have hB2 : Below w1.heap.size w1 w2 := by first | exact hb2 | exact Below.trans (by (go_grown; done)) (hb2.mono (by (go_size; done)))
        have f13 := later hB2 f1
        have z13 := laterF hB2 f1 z1
        have f14 := later hB2 f2
        have z14 := laterF hB2 f2 z2
        have f15 := later hB2 f3
        have z15 := laterF hB2 f3 z3
        have f16 := later hB2 f4
        have z16 := laterF hB2 f4 z4
        have f17 := later hB2 f5
        have z17 := laterF hB2 f5 z5
        have f18 := later hB2 f6
        have f19 := later hB2 f7
        have f20 := later hB2 f8
        have f21 := later hB2 f9
        have f22 := later hB2 f10
        have l23 : w.heap.size + 1 < w2.heap.size := World.block_lt_of_cell? _ _ f13
        have l24 : w.heap.size < w2.heap.size := World.block_lt_of_cell? _ _ f18
        have hW2 := bseq hB1 (hB2)
        have hZ2 := hW2.size
        go_wp2_with fail
        refine (sMotion_any _ _ _ _ _ _).mono ?_
        rintro en w3 ⟨rfl, hb3⟩
        have hB3 : Below w2.heap.size w2 w3 := by first | exact hb3 | exact Below.trans (by (go_grown; done)) (hb3.mono (by (go_size; done)))
        have f25 := later hB3 f13
        have z25 := laterF hB3 f13 z13
        have f26 := later hB3 f14
        have z26 := laterF hB3 f14 z14
        have f27 := later hB3 f15
        have z27 := laterF hB3 f15 z15
        have f28 := later hB3 f16
        have z28 := laterF hB3 f16 z16
        have f29 := later hB3 f17
        have z29 := laterF hB3 f17 z17
        have f30 := later hB3 f18
        have f31 := later hB3 f19
        have f32 := later hB3 f20
        have f33 := later hB3 f21
        have f34 := later hB3 f22
        have f35 : w3.cell? ⟨w2.heap.size, 0, none⟩ = some (.int .i64 (x + k * vx)) := (hb3.cell (p := ⟨w2.heap.size, 0, none⟩) (by first | (go_size; done) | (simp; done) | (simp <;> omega))).trans (by go_simp)
        have f36 : w3.cell? ⟨w2.heap.size, 1, none⟩ = some (.int .i64 (y + k * vy)) := (hb3.cell (p := ⟨w2.heap.size, 1, none⟩) (by first | (go_size; done) | (simp; done) | (simp <;> omega))).trans (by go_simp)
        have f37 : w3.cell? ⟨w2.heap.size, 2, none⟩ = some (.int .i64 (vx)) := (hb3.cell (p := ⟨w2.heap.size, 2, none⟩) (by first | (go_size; done) | (simp; done) | (simp <;> omega))).trans (by go_simp)
        have f38 : w3.cell? ⟨w2.heap.size, 3, none⟩ = some (.int .i64 (vy)) := (hb3.cell (p := ⟨w2.heap.size, 3, none⟩) (by first | (go_size; done) | (simp; done) | (simp <;> omega))).trans (by go_simp)
        have f39 : w3.cell? ⟨w2.heap.size, 4, none⟩ = some (.int .i64 (mvS s k)) := (hb3.cell (p := ⟨w2.heap.size, 4, none⟩) (by first | (go_size; done) | (simp; done) | (simp <;> omega))).trans (by go_simp)
        have l40 : w.heap.size + 1 < w3.heap.size := World.block_lt_of_cell? _ _ f25
        have l41 : w.heap.size < w3.heap.size := World.block_lt_of_cell? _ _ f30
        have l42 : w2.heap.size < w3.heap.size := World.block_lt_of_cell? _ _ f35
        have hW3 := bseq hB1 (bseq hB2 (hB3))
        have hZ3 := hW3.size
        go_wp2
        refine bodyPost_ret (v := .tuple #[.agg #[.int .i64 (mvV x y vx vy s k (x + k * vx)), .int .i64 (mvV x y vx vy s k (y + k * vy)), .int .i64 (mvV x y vx vy s k (vx)), .int .i64 (mvV x y vx vy s k (vy)), .int .i64 (mvV x y vx vy s k (mvS s k))], .int .i64 (mvCode x y vx vy s k)]) (by rw [HV.out.1, HV.out.2.1, HV.out.2.2.1, HV.out.2.2.2.1, HV.out.2.2.2.2.1, HV.out.2.2.2.2.2]; simp [results, Try.results47, go_sem, f25, f26, f27, f28, f29, f30, f31, f32, f33, f34, f35, f36, f37, f38, f39, z25, z26, z27, z28, z29, l40, Nat.ne_of_lt l40, l41, Nat.ne_of_lt l41, l42, Nat.ne_of_lt l42]) rfl ⟨rfl, by have hx := hW3; go_grown⟩
    · have HV : Hid (mvV x y vx vy s k (x + k * vx) = 0 ∧ mvV x y vx vy s k (y + k * vy) = 0 ∧ mvV x y vx vy s k (vx) = 0 ∧ mvV x y vx vy s k (vy) = 0 ∧ mvV x y vx vy s k (mvS s k) = 0 ∧ mvCode x y vx vy s k = 2) := by show _ ∧ _; simp [mvV, mvCode, mvOk, h1, h2]
      go_enter Try.func47, Try.ntmps47
      go_wp2_with fail
      refine (sMotion_any _ _ _ _ _ _).mono ?_
      rintro en w1 ⟨rfl, hb1⟩
      have hB1 : Below w.heap.size w w1 := by first | exact hb1 | exact Below.trans (by (go_grown; done)) (hb1.mono (by (go_size; done)))
      have f1 : w1.cell? ⟨w.heap.size + 1, 0, none⟩ = some (.int .i64 0) := (hb1.cell (p := ⟨w.heap.size + 1, 0, none⟩) (by first | (go_size; done) | (simp; done) | (simp <;> omega))).trans (by go_simp)
      have z1 : w1.frozen? ⟨w.heap.size + 1, 0, none⟩ = false := (hb1.frozen (p := ⟨w.heap.size + 1, 0, none⟩) (by first | (go_size; done) | (simp; done) | (simp <;> omega))).trans (by go_simp)
      have f2 : w1.cell? ⟨w.heap.size + 1, 1, none⟩ = some (.int .i64 0) := (hb1.cell (p := ⟨w.heap.size + 1, 1, none⟩) (by first | (go_size; done) | (simp; done) | (simp <;> omega))).trans (by go_simp)
      have z2 : w1.frozen? ⟨w.heap.size + 1, 1, none⟩ = false := (hb1.frozen (p := ⟨w.heap.size + 1, 1, none⟩) (by first | (go_size; done) | (simp; done) | (simp <;> omega))).trans (by go_simp)
      have f3 : w1.cell? ⟨w.heap.size + 1, 2, none⟩ = some (.int .i64 0) := (hb1.cell (p := ⟨w.heap.size + 1, 2, none⟩) (by first | (go_size; done) | (simp; done) | (simp <;> omega))).trans (by go_simp)
      have z3 : w1.frozen? ⟨w.heap.size + 1, 2, none⟩ = false := (hb1.frozen (p := ⟨w.heap.size + 1, 2, none⟩) (by first | (go_size; done) | (simp; done) | (simp <;> omega))).trans (by go_simp)
      have f4 : w1.cell? ⟨w.heap.size + 1, 3, none⟩ = some (.int .i64 0) := (hb1.cell (p := ⟨w.heap.size + 1, 3, none⟩) (by first | (go_size; done) | (simp; done) | (simp <;> omega))).trans (by go_simp)
      have z4 : w1.frozen? ⟨w.heap.size + 1, 3, none⟩ = false := (hb1.frozen (p := ⟨w.heap.size + 1, 3, none⟩) (by first | (go_size; done) | (simp; done) | (simp <;> omega))).trans (by go_simp)
      have f5 : w1.cell? ⟨w.heap.size + 1, 4, none⟩ = some (.int .i64 0) := (hb1.cell (p := ⟨w.heap.size + 1, 4, none⟩) (by first | (go_size; done) | (simp; done) | (simp <;> omega))).trans (by go_simp)
      have z5 : w1.frozen? ⟨w.heap.size + 1, 4, none⟩ = false := (hb1.frozen (p := ⟨w.heap.size + 1, 4, none⟩) (by first | (go_size; done) | (simp; done) | (simp <;> omega))).trans (by go_simp)
      have f6 : w1.cell? ⟨w.heap.size, 0, none⟩ = some (.int .i64 x) := (hb1.cell (p := ⟨w.heap.size, 0, none⟩) (by first | (go_size; done) | (simp; done) | (simp <;> omega))).trans (by go_simp)
      have f7 : w1.cell? ⟨w.heap.size, 1, none⟩ = some (.int .i64 y) := (hb1.cell (p := ⟨w.heap.size, 1, none⟩) (by first | (go_size; done) | (simp; done) | (simp <;> omega))).trans (by go_simp)
      have f8 : w1.cell? ⟨w.heap.size, 2, none⟩ = some (.int .i64 vx) := (hb1.cell (p := ⟨w.heap.size, 2, none⟩) (by first | (go_size; done) | (simp; done) | (simp <;> omega))).trans (by go_simp)
      have f9 : w1.cell? ⟨w.heap.size, 3, none⟩ = some (.int .i64 vy) := (hb1.cell (p := ⟨w.heap.size, 3, none⟩) (by first | (go_size; done) | (simp; done) | (simp <;> omega))).trans (by go_simp)
      have f10 : w1.cell? ⟨w.heap.size, 4, none⟩ = some (.int .i64 s) := (hb1.cell (p := ⟨w.heap.size, 4, none⟩) (by first | (go_size; done) | (simp; done) | (simp <;> omega))).trans (by go_simp)
      have l11 : w.heap.size + 1 < w1.heap.size := World.block_lt_of_cell? _ _ f1
      have l12 : w.heap.size < w1.heap.size := World.block_lt_of_cell? _ _ f6
      have hZ1 := hB1.size
      go_wp2_with (first | (go_at_call 74; refine (l01In_any _ _ _ _).mono ?_; rintro en w1 ⟨rfl, rfl⟩))
      refine bodyPost_ret (v := .tuple #[.agg #[.int .i64 (mvV x y vx vy s k (x + k * vx)), .int .i64 (mvV x y vx vy s k (y + k * vy)), .int .i64 (mvV x y vx vy s k (vx)), .int .i64 (mvV x y vx vy s k (vy)), .int .i64 (mvV x y vx vy s k (mvS s k))], .int .i64 (mvCode x y vx vy s k)]) (by rw [HV.out.1, HV.out.2.1, HV.out.2.2.1, HV.out.2.2.2.1, HV.out.2.2.2.2.1, HV.out.2.2.2.2.2]; simp [results, Try.results47, go_sem, f1, f2, f3, f4, f5, f6, f7, f8, f9, f10, z1, z2, z3, z4, z5, l11, Nat.ne_of_lt l11, l12, Nat.ne_of_lt l12]) rfl ⟨rfl, by have hx := hB1; go_grown⟩
  · have HV : Hid (mvV x y vx vy s k (x + k * vx) = 0 ∧ mvV x y vx vy s k (y + k * vy) = 0 ∧ mvV x y vx vy s k (vx) = 0 ∧ mvV x y vx vy s k (vy) = 0 ∧ mvV x y vx vy s k (mvS s k) = 0 ∧ mvCode x y vx vy s k = 1) := by show _ ∧ _; simp [mvV, mvCode, mvOk, h1]
    go_enter Try.func47, Try.ntmps47
    go_wp2_with fail
    refine (sMotion_any _ _ _ _ _ _).mono ?_
    rintro en w1 ⟨rfl, hb1⟩
    have hB1 : Below w.heap.size w w1 := by first | exact hb1 | exact Below.trans (by (go_grown; done)) (hb1.mono (by (go_size; done)))
    have f1 : w1.cell? ⟨w.heap.size + 1, 0, none⟩ = some (.int .i64 0) := (hb1.cell (p := ⟨w.heap.size + 1, 0, none⟩) (by first | (go_size; done) | (simp; done) | (simp <;> omega))).trans (by go_simp)
    have z1 : w1.frozen? ⟨w.heap.size + 1, 0, none⟩ = false := (hb1.frozen (p := ⟨w.heap.size + 1, 0, none⟩) (by first | (go_size; done) | (simp; done) | (simp <;> omega))).trans (by go_simp)
    have f2 : w1.cell? ⟨w.heap.size + 1, 1, none⟩ = some (.int .i64 0) := (hb1.cell (p := ⟨w.heap.size + 1, 1, none⟩) (by first | (go_size; done) | (simp; done) | (simp <;> omega))).trans (by go_simp)
    have z2 : w1.frozen? ⟨w.heap.size + 1, 1, none⟩ = false := (hb1.frozen (p := ⟨w.heap.size + 1, 1, none⟩) (by first | (go_size; done) | (simp; done) | (simp <;> omega))).trans (by go_simp)
    have f3 : w1.cell? ⟨w.heap.size + 1, 2, none⟩ = some (.int .i64 0) := (hb1.cell (p := ⟨w.heap.size + 1, 2, none⟩) (by first | (go_size; done) | (simp; done) | (simp <;> omega))).trans (by go_simp)
    have z3 : w1.frozen? ⟨w.heap.size + 1, 2, none⟩ = false := (hb1.frozen (p := ⟨w.heap.size + 1, 2, none⟩) (by first | (go_size; done) | (simp; done) | (simp <;> omega))).trans (by go_simp)
    have f4 : w1.cell? ⟨w.heap.size + 1, 3, none⟩ = some (.int .i64 0) := (hb1.cell (p := ⟨w.heap.size + 1, 3, none⟩) (by first | (go_size; done) | (simp; done) | (simp <;> omega))).trans (by go_simp)
    have z4 : w1.frozen? ⟨w.heap.size + 1, 3, none⟩ = false := (hb1.frozen (p := ⟨w.heap.size + 1, 3, none⟩) (by first | (go_size; done) | (simp; done) | (simp <;> omega))).trans (by go_simp)
    have f5 : w1.cell? ⟨w.heap.size + 1, 4, none⟩ = some (.int .i64 0) := (hb1.cell (p := ⟨w.heap.size + 1, 4, none⟩) (by first | (go_size; done) | (simp; done) | (simp <;> omega))).trans (by go_simp)
    have z5 : w1.frozen? ⟨w.heap.size + 1, 4, none⟩ = false := (hb1.frozen (p := ⟨w.heap.size + 1, 4, none⟩) (by first | (go_size; done) | (simp; done) | (simp <;> omega))).trans (by go_simp)
    have f6 : w1.cell? ⟨w.heap.size, 0, none⟩ = some (.int .i64 x) := (hb1.cell (p := ⟨w.heap.size, 0, none⟩) (by first | (go_size; done) | (simp; done) | (simp <;> omega))).trans (by go_simp)
    have f7 : w1.cell? ⟨w.heap.size, 1, none⟩ = some (.int .i64 y) := (hb1.cell (p := ⟨w.heap.size, 1, none⟩) (by first | (go_size; done) | (simp; done) | (simp <;> omega))).trans (by go_simp)
    have f8 : w1.cell? ⟨w.heap.size, 2, none⟩ = some (.int .i64 vx) := (hb1.cell (p := ⟨w.heap.size, 2, none⟩) (by first | (go_size; done) | (simp; done) | (simp <;> omega))).trans (by go_simp)
    have f9 : w1.cell? ⟨w.heap.size, 3, none⟩ = some (.int .i64 vy) := (hb1.cell (p := ⟨w.heap.size, 3, none⟩) (by first | (go_size; done) | (simp; done) | (simp <;> omega))).trans (by go_simp)
    have f10 : w1.cell? ⟨w.heap.size, 4, none⟩ = some (.int .i64 s) := (hb1.cell (p := ⟨w.heap.size, 4, none⟩) (by first | (go_size; done) | (simp; done) | (simp <;> omega))).trans (by go_simp)
    have l11 : w.heap.size + 1 < w1.heap.size := World.block_lt_of_cell? _ _ f1
    have l12 : w.heap.size < w1.heap.size := World.block_lt_of_cell? _ _ f6
    have hZ1 := hB1.size
    go_wp2_with (first | (go_at_call 74; refine (l01In_any _ _ _ _).mono ?_; rintro en w1 ⟨rfl, rfl⟩))
    refine bodyPost_ret (v := .tuple #[.agg #[.int .i64 (mvV x y vx vy s k (x + k * vx)), .int .i64 (mvV x y vx vy s k (y + k * vy)), .int .i64 (mvV x y vx vy s k (vx)), .int .i64 (mvV x y vx vy s k (vy)), .int .i64 (mvV x y vx vy s k (mvS s k))], .int .i64 (mvCode x y vx vy s k)]) (by rw [HV.out.1, HV.out.2.1, HV.out.2.2.1, HV.out.2.2.2.1, HV.out.2.2.2.2.1, HV.out.2.2.2.2.2]; simp [results, Try.results47, go_sem, f1, f2, f3, f4, f5, f6, f7, f8, f9, f10, z1, z2, z3, z4, z5, l11, Nat.ne_of_lt l11, l12, Nat.ne_of_lt l12]) rfl ⟨rfl, by have hx := hB1; go_grown⟩
end Go.Proofs.Ytoccglmlpobeeaa
