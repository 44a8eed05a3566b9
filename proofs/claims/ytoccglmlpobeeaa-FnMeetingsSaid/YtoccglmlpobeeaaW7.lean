/- walks: PositionAt -/
import Derived.Test.YtoccglmlpobeeaaW5
import Derived.Test.YtoccglmlpobeeaaPlain3
set_option linter.unusedVariables false
set_option linter.unusedSimpArgs false
namespace Go.Proofs.Ytoccglmlpobeeaa
open Go.RowKit

set_option maxHeartbeats 4000000 in
theorem iPos_any (p q r s t : Int) (w : World) :
    Calls Try.prog 43 #[.agg #[.int .i64 p, .int .i64 q, .int .i64 r, .int .i64 s], .int .i64 t] w fun en w9 => en = .returned (.tuple #[.agg #[.int .i64 (posX p q r s t), .int .i64 (posY p q r s t)], .int .i64 (posCode p q r s t)]) ∧ Below w.heap.size w w9 := by
  rcases Bool.eq_false_or_eq_true (isTr p q r s) with h1 | h1
  · rcases Bool.eq_false_or_eq_true (inR t 0 1000) with h2 | h2
    · have hb := isTr_bd h1
      unfold TrB at hb
      have ht := inR_iff.1 h2
      have m1 := mul_bd (a := t) (b := r) (A := 1000) (B := 1000) (by omega) (by omega)
      have m2 := mul_bd (a := t) (b := s) (A := 1000) (B := 1000) (by omega) (by omega)
      have HP : posIn p q r s t = isPt 100000 (p + t * r) (q + t * s) := rfl
      rcases Bool.eq_false_or_eq_true (isPt 100000 (p + t * r) (q + t * s)) with h3 | h3
      · have HV : Hid (posX p q r s t = p + t * r ∧ posY p q r s t = q + t * s ∧ posCode p q r s t = 0) := by
          show _ ∧ _ ∧ _; simp [posX, posY, posCode, posOk, h1, h2, HP, h3]
        clear HP
        go_enter Try.func43, Try.ntmps43
        go_wp2_with fail
        refine (iTrack_any _ _ _ _ _).mono ?_
        rintro en w1 ⟨rfl, hb1⟩
        have hB1 : Below w.heap.size w w1 := by first | exact hb1 | exact Below.trans (by (go_grown; done)) (hb1.mono (by (go_size; done)))
        have f1 : w1.cell? ⟨w.heap.size + 1, 0, none⟩ = some (.int .i64 0) := (hb1.cell (p := ⟨w.heap.size + 1, 0, none⟩) (by first | (go_size; done) | (simp; done) | (simp <;> omega))).trans (by go_simp)
        have z1 : w1.frozen? ⟨w.heap.size + 1, 0, none⟩ = false := (hb1.frozen (p := ⟨w.heap.size + 1, 0, none⟩) (by first | (go_size; done) | (simp; done) | (simp <;> omega))).trans (by go_simp)
        have f2 : w1.cell? ⟨w.heap.size + 1, 1, none⟩ = some (.int .i64 0) := (hb1.cell (p := ⟨w.heap.size + 1, 1, none⟩) (by first | (go_size; done) | (simp; done) | (simp <;> omega))).trans (by go_simp)
        have z2 : w1.frozen? ⟨w.heap.size + 1, 1, none⟩ = false := (hb1.frozen (p := ⟨w.heap.size + 1, 1, none⟩) (by first | (go_size; done) | (simp; done) | (simp <;> omega))).trans (by go_simp)
        have f3 : w1.cell? ⟨w.heap.size, 0, none⟩ = some (.int .i64 p) := (hb1.cell (p := ⟨w.heap.size, 0, none⟩) (by first | (go_size; done) | (simp; done) | (simp <;> omega))).trans (by go_simp)
        have f4 : w1.cell? ⟨w.heap.size, 1, none⟩ = some (.int .i64 q) := (hb1.cell (p := ⟨w.heap.size, 1, none⟩) (by first | (go_size; done) | (simp; done) | (simp <;> omega))).trans (by go_simp)
        have f5 : w1.cell? ⟨w.heap.size, 2, none⟩ = some (.int .i64 r) := (hb1.cell (p := ⟨w.heap.size, 2, none⟩) (by first | (go_size; done) | (simp; done) | (simp <;> omega))).trans (by go_simp)
        have f6 : w1.cell? ⟨w.heap.size, 3, none⟩ = some (.int .i64 s) := (hb1.cell (p := ⟨w.heap.size, 3, none⟩) (by first | (go_size; done) | (simp; done) | (simp <;> omega))).trans (by go_simp)
        have l7 : w.heap.size + 1 < w1.heap.size := World.block_lt_of_cell? _ _ f1
        have l8 : w.heap.size < w1.heap.size := World.block_lt_of_cell? _ _ f3
        have hZ1 := hB1.size
        go_wp2_with (first | (go_at_call 76; refine (within_any _ _ _ _).mono ?_; rintro en w1 ⟨rfl, rfl⟩))
        refine (isPoint_any _ _ _).mono ?_
        rintro en w2 ⟨rfl, hb2⟩
        have hB2 : Below w1.heap.size w1 w2 := by first | exact hb2 | exact Below.trans (by (go_grown; done)) (hb2.mono (by (go_size; done)))
        have f9 := later hB2 f1
        have z9 := laterF hB2 f1 z1
        have f10 := later hB2 f2
        have z10 := laterF hB2 f2 z2
        have f11 := later hB2 f3
        have f12 := later hB2 f4
        have f13 := later hB2 f5
        have f14 := later hB2 f6
        have f15 : w2.cell? ⟨w1.heap.size, 0, none⟩ = some (.int .i64 (p + t * r)) := (hb2.cell (p := ⟨w1.heap.size, 0, none⟩) (by first | (go_size; done) | (simp; done) | (simp <;> omega))).trans (by go_simp)
        have f16 : w2.cell? ⟨w1.heap.size, 1, none⟩ = some (.int .i64 (q + t * s)) := (hb2.cell (p := ⟨w1.heap.size, 1, none⟩) (by first | (go_size; done) | (simp; done) | (simp <;> omega))).trans (by go_simp)
        have l17 : w.heap.size + 1 < w2.heap.size := World.block_lt_of_cell? _ _ f9
        have l18 : w.heap.size < w2.heap.size := World.block_lt_of_cell? _ _ f11
        have l19 : w1.heap.size < w2.heap.size := World.block_lt_of_cell? _ _ f15
        have hW2 := bseq hB1 (hB2)
        have hZ2 := hW2.size
        go_wp2
        refine bodyPost_ret (v := .tuple #[.agg #[.int .i64 (posX p q r s t), .int .i64 (posY p q r s t)], .int .i64 (posCode p q r s t)]) (by rw [HV.out.1, HV.out.2.1, HV.out.2.2]; simp [results, Try.results43, go_sem, f9, f10, f11, f12, f13, f14, f15, f16, z9, z10]) rfl ⟨rfl, by have hx := hW2; go_grown⟩
      · have HV : Hid (posX p q r s t = 0 ∧ posY p q r s t = 0 ∧ posCode p q r s t = 3) := by
          show _ ∧ _ ∧ _; simp [posX, posY, posCode, posOk, h1, h2, HP, h3]
        clear HP
        go_enter Try.func43, Try.ntmps43
        go_wp2_with fail
        refine (iTrack_any _ _ _ _ _).mono ?_
        rintro en w1 ⟨rfl, hb1⟩
        have hB1 : Below w.heap.size w w1 := by first | exact hb1 | exact Below.trans (by (go_grown; done)) (hb1.mono (by (go_size; done)))
        have f1 : w1.cell? ⟨w.heap.size + 1, 0, none⟩ = some (.int .i64 0) := (hb1.cell (p := ⟨w.heap.size + 1, 0, none⟩) (by first | (go_size; done) | (simp; done) | (simp <;> omega))).trans (by go_simp)
        have z1 : w1.frozen? ⟨w.heap.size + 1, 0, none⟩ = false := (hb1.frozen (p := ⟨w.heap.size + 1, 0, none⟩) (by first | (go_size; done) | (simp; done) | (simp <;> omega))).trans (by go_simp)
        have f2 : w1.cell? ⟨w.heap.size + 1, 1, none⟩ = some (.int .i64 0) := (hb1.cell (p := ⟨w.heap.size + 1, 1, none⟩) (by first | (go_size; done) | (simp; done) | (simp <;> omega))).trans (by go_simp)
        have z2 : w1.frozen? ⟨w.heap.size + 1, 1, none⟩ = false := (hb1.frozen (p := ⟨w.heap.size + 1, 1, none⟩) (by first | (go_size; done) | (simp; done) | (simp <;> omega))).trans (by go_simp)
        have f3 : w1.cell? ⟨w.heap.size, 0, none⟩ = some (.int .i64 p) := (hb1.cell (p := ⟨w.heap.size, 0, none⟩) (by first | (go_size; done) | (simp; done) | (simp <;> omega))).trans (by go_simp)
        have f4 : w1.cell? ⟨w.heap.size, 1, none⟩ = some (.int .i64 q) := (hb1.cell (p := ⟨w.heap.size, 1, none⟩) (by first | (go_size; done) | (simp; done) | (simp <;> omega))).trans (by go_simp)
        have f5 : w1.cell? ⟨w.heap.size, 2, none⟩ = some (.int .i64 r) := (hb1.cell (p := ⟨w.heap.size, 2, none⟩) (by first | (go_size; done) | (simp; done) | (simp <;> omega))).trans (by go_simp)
        have f6 : w1.cell? ⟨w.heap.size, 3, none⟩ = some (.int .i64 s) := (hb1.cell (p := ⟨w.heap.size, 3, none⟩) (by first | (go_size; done) | (simp; done) | (simp <;> omega))).trans (by go_simp)
        have l7 : w.heap.size + 1 < w1.heap.size := World.block_lt_of_cell? _ _ f1
        have l8 : w.heap.size < w1.heap.size := World.block_lt_of_cell? _ _ f3
        have hZ1 := hB1.size
        go_wp2_with (first | (go_at_call 76; refine (within_any _ _ _ _).mono ?_; rintro en w1 ⟨rfl, rfl⟩))
        refine (isPoint_any _ _ _).mono ?_
        rintro en w2 ⟨rfl, hb2⟩
        have hB2 : Below w1.heap.size w1 w2 := by first | exact hb2 | exact Below.trans (by (go_grown; done)) (hb2.mono (by (go_size; done)))
        have f9 := later hB2 f1
        have z9 := laterF hB2 f1 z1
        have f10 := later hB2 f2
        have z10 := laterF hB2 f2 z2
        have f11 := later hB2 f3
        have f12 := later hB2 f4
        have f13 := later hB2 f5
        have f14 := later hB2 f6
        have f15 : w2.cell? ⟨w1.heap.size, 0, none⟩ = some (.int .i64 (p + t * r)) := (hb2.cell (p := ⟨w1.heap.size, 0, none⟩) (by first | (go_size; done) | (simp; done) | (simp <;> omega))).trans (by go_simp)
        have f16 : w2.cell? ⟨w1.heap.size, 1, none⟩ = some (.int .i64 (q + t * s)) := (hb2.cell (p := ⟨w1.heap.size, 1, none⟩) (by first | (go_size; done) | (simp; done) | (simp <;> omega))).trans (by go_simp)
        have l17 : w.heap.size + 1 < w2.heap.size := World.block_lt_of_cell? _ _ f9
        have l18 : w.heap.size < w2.heap.size := World.block_lt_of_cell? _ _ f11
        have l19 : w1.heap.size < w2.heap.size := World.block_lt_of_cell? _ _ f15
        have hW2 := bseq hB1 (hB2)
        have hZ2 := hW2.size
        go_wp2
        refine bodyPost_ret (v := .tuple #[.agg #[.int .i64 (posX p q r s t), .int .i64 (posY p q r s t)], .int .i64 (posCode p q r s t)]) (by rw [HV.out.1, HV.out.2.1, HV.out.2.2]; simp [results, Try.results43, go_sem, f9, f10, f11, f12, f13, f14, f15, f16, z9, z10]) rfl ⟨rfl, by have hx := hW2; go_grown⟩
    · have HV : Hid (posX p q r s t = 0 ∧ posY p q r s t = 0 ∧ posCode p q r s t = 2) := by
        show _ ∧ _ ∧ _; simp [posX, posY, posCode, posOk, h1, h2]
      go_enter Try.func43, Try.ntmps43
      go_wp2_with fail
      refine (iTrack_any _ _ _ _ _).mono ?_
      rintro en w1 ⟨rfl, hb1⟩
      have hB1 : Below w.heap.size w w1 := by first | exact hb1 | exact Below.trans (by (go_grown; done)) (hb1.mono (by (go_size; done)))
      have f1 : w1.cell? ⟨w.heap.size + 1, 0, none⟩ = some (.int .i64 0) := (hb1.cell (p := ⟨w.heap.size + 1, 0, none⟩) (by first | (go_size; done) | (simp; done) | (simp <;> omega))).trans (by go_simp)
      have z1 : w1.frozen? ⟨w.heap.size + 1, 0, none⟩ = false := (hb1.frozen (p := ⟨w.heap.size + 1, 0, none⟩) (by first | (go_size; done) | (simp; done) | (simp <;> omega))).trans (by go_simp)
      have f2 : w1.cell? ⟨w.heap.size + 1, 1, none⟩ = some (.int .i64 0) := (hb1.cell (p := ⟨w.heap.size + 1, 1, none⟩) (by first | (go_size; done) | (simp; done) | (simp <;> omega))).trans (by go_simp)
      have z2 : w1.frozen? ⟨w.heap.size + 1, 1, none⟩ = false := (hb1.frozen (p := ⟨w.heap.size + 1, 1, none⟩) (by first | (go_size; done) | (simp; done) | (simp <;> omega))).trans (by go_simp)
      have f3 : w1.cell? ⟨w.heap.size, 0, none⟩ = some (.int .i64 p) := (hb1.cell (p := ⟨w.heap.size, 0, none⟩) (by first | (go_size; done) | (simp; done) | (simp <;> omega))).trans (by go_simp)
      have f4 : w1.cell? ⟨w.heap.size, 1, none⟩ = some (.int .i64 q) := (hb1.cell (p := ⟨w.heap.size, 1, none⟩) (by first | (go_size; done) | (simp; done) | (simp <;> omega))).trans (by go_simp)
      have f5 : w1.cell? ⟨w.heap.size, 2, none⟩ = some (.int .i64 r) := (hb1.cell (p := ⟨w.heap.size, 2, none⟩) (by first | (go_size; done) | (simp; done) | (simp <;> omega))).trans (by go_simp)
      have f6 : w1.cell? ⟨w.heap.size, 3, none⟩ = some (.int .i64 s) := (hb1.cell (p := ⟨w.heap.size, 3, none⟩) (by first | (go_size; done) | (simp; done) | (simp <;> omega))).trans (by go_simp)
      have l7 : w.heap.size + 1 < w1.heap.size := World.block_lt_of_cell? _ _ f1
      have l8 : w.heap.size < w1.heap.size := World.block_lt_of_cell? _ _ f3
      have hZ1 := hB1.size
      go_wp2_with (first | (go_at_call 76; refine (within_any _ _ _ _).mono ?_; rintro en w1 ⟨rfl, rfl⟩))
      refine bodyPost_ret (v := .tuple #[.agg #[.int .i64 (posX p q r s t), .int .i64 (posY p q r s t)], .int .i64 (posCode p q r s t)]) (by rw [HV.out.1, HV.out.2.1, HV.out.2.2]; simp [results, Try.results43, go_sem, f1, f2, f3, f4, f5, f6, z1, z2]) rfl ⟨rfl, by have hx := hB1; go_grown⟩
  · have HV : Hid (posX p q r s t = 0 ∧ posY p q r s t = 0 ∧ posCode p q r s t = 1) := by
      show _ ∧ _ ∧ _; simp [posX, posY, posCode, posOk, h1]
    go_enter Try.func43, Try.ntmps43
    go_wp2_with fail
    refine (iTrack_any _ _ _ _ _).mono ?_
    rintro en w1 ⟨rfl, hb1⟩
    have hB1 : Below w.heap.size w w1 := by first | exact hb1 | exact Below.trans (by (go_grown; done)) (hb1.mono (by (go_size; done)))
    have f1 : w1.cell? ⟨w.heap.size + 1, 0, none⟩ = some (.int .i64 0) := (hb1.cell (p := ⟨w.heap.size + 1, 0, none⟩) (by first | (go_size; done) | (simp; done) | (simp <;> omega))).trans (by go_simp)
    have z1 : w1.frozen? ⟨w.heap.size + 1, 0, none⟩ = false := (hb1.frozen (p := ⟨w.heap.size + 1, 0, none⟩) (by first | (go_size; done) | (simp; done) | (simp <;> omega))).trans (by go_simp)
    have f2 : w1.cell? ⟨w.heap.size + 1, 1, none⟩ = some (.int .i64 0) := (hb1.cell (p := ⟨w.heap.size + 1, 1, none⟩) (by first | (go_size; done) | (simp; done) | (simp <;> omega))).trans (by go_simp)
    have z2 : w1.frozen? ⟨w.heap.size + 1, 1, none⟩ = false := (hb1.frozen (p := ⟨w.heap.size + 1, 1, none⟩) (by first | (go_size; done) | (simp; done) | (simp <;> omega))).trans (by go_simp)
    have f3 : w1.cell? ⟨w.heap.size, 0, none⟩ = some (.int .i64 p) := (hb1.cell (p := ⟨w.heap.size, 0, none⟩) (by first | (go_size; done) | (simp; done) | (simp <;> omega))).trans (by go_simp)
    have f4 : w1.cell? ⟨w.heap.size, 1, none⟩ = some (.int .i64 q) := (hb1.cell (p := ⟨w.heap.size, 1, none⟩) (by first | (go_size; done) | (simp; done) | (simp <;> omega))).trans (by go_simp)
    have f5 : w1.cell? ⟨w.heap.size, 2, none⟩ = some (.int .i64 r) := (hb1.cell (p := ⟨w.heap.size, 2, none⟩) (by first | (go_size; done) | (simp; done) | (simp <;> omega))).trans (by go_simp)
    have f6 : w1.cell? ⟨w.heap.size, 3, none⟩ = some (.int .i64 s) := (hb1.cell (p := ⟨w.heap.size, 3, none⟩) (by first | (go_size; done) | (simp; done) | (simp <;> omega))).trans (by go_simp)
    have l7 : w.heap.size + 1 < w1.heap.size := World.block_lt_of_cell? _ _ f1
    have l8 : w.heap.size < w1.heap.size := World.block_lt_of_cell? _ _ f3
    have hZ1 := hB1.size
    go_wp2_with (first | (go_at_call 76; refine (within_any _ _ _ _).mono ?_; rintro en w1 ⟨rfl, rfl⟩))
    refine bodyPost_ret (v := .tuple #[.agg #[.int .i64 (posX p q r s t), .int .i64 (posY p q r s t)], .int .i64 (posCode p q r s t)]) (by rw [HV.out.1, HV.out.2.1, HV.out.2.2]; simp [results, Try.results43, go_sem, f1, f2, f3, f4, f5, f6, z1, z2]) rfl ⟨rfl, by have hx := hB1; go_grown⟩

set_option maxHeartbeats 4000000 in
theorem sPos_any (p q r s t : Int) (w : World) :
    Calls Try.prog 42 #[.agg #[.int .i64 p, .int .i64 q, .int .i64 r, .int .i64 s], .int .i64 t] w fun en w9 => en = .returned (.tuple #[.agg #[.int .i64 (posX p q r s t), .int .i64 (posY p q r s t)], .int .i64 (posCode p q r s t)]) ∧ Below w.heap.size w w9 := by
  rcases Bool.eq_false_or_eq_true (isTr p q r s) with h1 | h1
  · rcases Bool.eq_false_or_eq_true (inR t 0 1000) with h2 | h2
    · have hb := isTr_bd h1
      unfold TrB at hb
      have ht := inR_iff.1 h2
      have m1 := mul_bd (a := t) (b := r) (A := 1000) (B := 1000) (by omega) (by omega)
      have m2 := mul_bd (a := t) (b := s) (A := 1000) (B := 1000) (by omega) (by omega)
      have HP : posIn p q r s t = isPt 100000 (p + t * r) (q + t * s) := rfl
      rcases Bool.eq_false_or_eq_true (isPt 100000 (p + t * r) (q + t * s)) with h3 | h3
      · have HV : Hid (posX p q r s t = p + t * r ∧ posY p q r s t = q + t * s ∧ posCode p q r s t = 0) := by
          show _ ∧ _ ∧ _; simp [posX, posY, posCode, posOk, h1, h2, HP, h3]
        clear HP
        go_enter Try.func42, Try.ntmps42
        go_wp2_with fail
        refine (sTrack_any _ _ _ _ _).mono ?_
        rintro en w1 ⟨rfl, hb1⟩
        have hB1 : Below w.heap.size w w1 := by first | exact hb1 | exact Below.trans (by (go_grown; done)) (hb1.mono (by (go_size; done)))
        have f1 : w1.cell? ⟨w.heap.size + 1, 0, none⟩ = some (.int .i64 0) := (hb1.cell (p := ⟨w.heap.size + 1, 0, none⟩) (by first | (go_size; done) | (simp; done) | (simp <;> omega))).trans (by go_simp)
        have z1 : w1.frozen? ⟨w.heap.size + 1, 0, none⟩ = false := (hb1.frozen (p := ⟨w.heap.size + 1, 0, none⟩) (by first | (go_size; done) | (simp; done) | (simp <;> omega))).trans (by go_simp)
        have f2 : w1.cell? ⟨w.heap.size + 1, 1, none⟩ = some (.int .i64 0) := (hb1.cell (p := ⟨w.heap.size + 1, 1, none⟩) (by first | (go_size; done) | (simp; done) | (simp <;> omega))).trans (by go_simp)
        have z2 : w1.frozen? ⟨w.heap.size + 1, 1, none⟩ = false := (hb1.frozen (p := ⟨w.heap.size + 1, 1, none⟩) (by first | (go_size; done) | (simp; done) | (simp <;> omega))).trans (by go_simp)
        have f3 : w1.cell? ⟨w.heap.size, 0, none⟩ = some (.int .i64 p) := (hb1.cell (p := ⟨w.heap.size, 0, none⟩) (by first | (go_size; done) | (simp; done) | (simp <;> omega))).trans (by go_simp)
        have f4 : w1.cell? ⟨w.heap.size, 1, none⟩ = some (.int .i64 q) := (hb1.cell (p := ⟨w.heap.size, 1, none⟩) (by first | (go_size; done) | (simp; done) | (simp <;> omega))).trans (by go_simp)
        have f5 : w1.cell? ⟨w.heap.size, 2, none⟩ = some (.int .i64 r) := (hb1.cell (p := ⟨w.heap.size, 2, none⟩) (by first | (go_size; done) | (simp; done) | (simp <;> omega))).trans (by go_simp)
        have f6 : w1.cell? ⟨w.heap.size, 3, none⟩ = some (.int .i64 s) := (hb1.cell (p := ⟨w.heap.size, 3, none⟩) (by first | (go_size; done) | (simp; done) | (simp <;> omega))).trans (by go_simp)
        have l7 : w.heap.size + 1 < w1.heap.size := World.block_lt_of_cell? _ _ f1
        have l8 : w.heap.size < w1.heap.size := World.block_lt_of_cell? _ _ f3
        have hZ1 := hB1.size
        go_wp2_with (first | (go_at_call 74; refine (l01In_any _ _ _ _).mono ?_; rintro en w1 ⟨rfl, rfl⟩))
        refine (l12Point_any _ _ _ _ (by omega)).mono ?_
        rintro en w2 ⟨rfl, hb2⟩
        have hB2 : Below w1.heap.size w1 w2 := by first | exact hb2 | exact Below.trans (by (go_grown; done)) (hb2.mono (by (go_size; done)))
        have f9 := later hB2 f1
        have z9 := laterF hB2 f1 z1
        have f10 := later hB2 f2
        have z10 := laterF hB2 f2 z2
        have f11 := later hB2 f3
        have f12 := later hB2 f4
        have f13 := later hB2 f5
        have f14 := later hB2 f6
        have f15 : w2.cell? ⟨w1.heap.size, 0, none⟩ = some (.int .i64 (p + t * r)) := (hb2.cell (p := ⟨w1.heap.size, 0, none⟩) (by first | (go_size; done) | (simp; done) | (simp <;> omega))).trans (by go_simp)
        have f16 : w2.cell? ⟨w1.heap.size, 1, none⟩ = some (.int .i64 (q + t * s)) := (hb2.cell (p := ⟨w1.heap.size, 1, none⟩) (by first | (go_size; done) | (simp; done) | (simp <;> omega))).trans (by go_simp)
        have l17 : w.heap.size + 1 < w2.heap.size := World.block_lt_of_cell? _ _ f9
        have l18 : w.heap.size < w2.heap.size := World.block_lt_of_cell? _ _ f11
        have l19 : w1.heap.size < w2.heap.size := World.block_lt_of_cell? _ _ f15
        have hW2 := bseq hB1 (hB2)
        have hZ2 := hW2.size
        go_wp2
        refine bodyPost_ret (v := .tuple #[.agg #[.int .i64 (posX p q r s t), .int .i64 (posY p q r s t)], .int .i64 (posCode p q r s t)]) (by rw [HV.out.1, HV.out.2.1, HV.out.2.2]; simp [results, Try.results42, go_sem, f9, f10, f11, f12, f13, f14, f15, f16, z9, z10]) rfl ⟨rfl, by have hx := hW2; go_grown⟩
      · have HV : Hid (posX p q r s t = 0 ∧ posY p q r s t = 0 ∧ posCode p q r s t = 3) := by
          show _ ∧ _ ∧ _; simp [posX, posY, posCode, posOk, h1, h2, HP, h3]
        clear HP
        go_enter Try.func42, Try.ntmps42
        go_wp2_with fail
        refine (sTrack_any _ _ _ _ _).mono ?_
        rintro en w1 ⟨rfl, hb1⟩
        have hB1 : Below w.heap.size w w1 := by first | exact hb1 | exact Below.trans (by (go_grown; done)) (hb1.mono (by (go_size; done)))
        have f1 : w1.cell? ⟨w.heap.size + 1, 0, none⟩ = some (.int .i64 0) := (hb1.cell (p := ⟨w.heap.size + 1, 0, none⟩) (by first | (go_size; done) | (simp; done) | (simp <;> omega))).trans (by go_simp)
        have z1 : w1.frozen? ⟨w.heap.size + 1, 0, none⟩ = false := (hb1.frozen (p := ⟨w.heap.size + 1, 0, none⟩) (by first | (go_size; done) | (simp; done) | (simp <;> omega))).trans (by go_simp)
        have f2 : w1.cell? ⟨w.heap.size + 1, 1, none⟩ = some (.int .i64 0) := (hb1.cell (p := ⟨w.heap.size + 1, 1, none⟩) (by first | (go_size; done) | (simp; done) | (simp <;> omega))).trans (by go_simp)
        have z2 : w1.frozen? ⟨w.heap.size + 1, 1, none⟩ = false := (hb1.frozen (p := ⟨w.heap.size + 1, 1, none⟩) (by first | (go_size; done) | (simp; done) | (simp <;> omega))).trans (by go_simp)
        have f3 : w1.cell? ⟨w.heap.size, 0, none⟩ = some (.int .i64 p) := (hb1.cell (p := ⟨w.heap.size, 0, none⟩) (by first | (go_size; done) | (simp; done) | (simp <;> omega))).trans (by go_simp)
        have f4 : w1.cell? ⟨w.heap.size, 1, none⟩ = some (.int .i64 q) := (hb1.cell (p := ⟨w.heap.size, 1, none⟩) (by first | (go_size; done) | (simp; done) | (simp <;> omega))).trans (by go_simp)
        have f5 : w1.cell? ⟨w.heap.size, 2, none⟩ = some (.int .i64 r) := (hb1.cell (p := ⟨w.heap.size, 2, none⟩) (by first | (go_size; done) | (simp; done) | (simp <;> omega))).trans (by go_simp)
        have f6 : w1.cell? ⟨w.heap.size, 3, none⟩ = some (.int .i64 s) := (hb1.cell (p := ⟨w.heap.size, 3, none⟩) (by first | (go_size; done) | (simp; done) | (simp <;> omega))).trans (by go_simp)
        have l7 : w.heap.size + 1 < w1.heap.size := World.block_lt_of_cell? _ _ f1
        have l8 : w.heap.size < w1.heap.size := World.block_lt_of_cell? _ _ f3
        have hZ1 := hB1.size
        go_wp2_with (first | (go_at_call 74; refine (l01In_any _ _ _ _).mono ?_; rintro en w1 ⟨rfl, rfl⟩))
        refine (l12Point_any _ _ _ _ (by omega)).mono ?_
        rintro en w2 ⟨rfl, hb2⟩
        have hB2 : Below w1.heap.size w1 w2 := by first | exact hb2 | exact Below.trans (by (go_grown; done)) (hb2.mono (by (go_size; done)))
        have f9 := later hB2 f1
        have z9 := laterF hB2 f1 z1
        have f10 := later hB2 f2
        have z10 := laterF hB2 f2 z2
        have f11 := later hB2 f3
        have f12 := later hB2 f4
        have f13 := later hB2 f5
        have f14 := later hB2 f6
        have f15 : w2.cell? ⟨w1.heap.size, 0, none⟩ = some (.int .i64 (p + t * r)) := (hb2.cell (p := ⟨w1.heap.size, 0, none⟩) (by first | (go_size; done) | (simp; done) | (simp <;> omega))).trans (by go_simp)
        have f16 : w2.cell? ⟨w1.heap.size, 1, none⟩ = some (.int .i64 (q + t * s)) := (hb2.cell (p := ⟨w1.heap.size, 1, none⟩) (by first | (go_size; done) | (simp; done) | (simp <;> omega))).trans (by go_simp)
        have l17 : w.heap.size + 1 < w2.heap.size := World.block_lt_of_cell? _ _ f9
        have l18 : w.heap.size < w2.heap.size := World.block_lt_of_cell? _ _ f11
        have l19 : w1.heap.size < w2.heap.size := World.block_lt_of_cell? _ _ f15
        have hW2 := bseq hB1 (hB2)
        have hZ2 := hW2.size
        go_wp2
        refine bodyPost_ret (v := .tuple #[.agg #[.int .i64 (posX p q r s t), .int .i64 (posY p q r s t)], .int .i64 (posCode p q r s t)]) (by rw [HV.out.1, HV.out.2.1, HV.out.2.2]; simp [results, Try.results42, go_sem, f9, f10, f11, f12, f13, f14, f15, f16, z9, z10]) rfl ⟨rfl, by have hx := hW2; go_grown⟩
    · have HV : Hid (posX p q r s t = 0 ∧ posY p q r s t = 0 ∧ posCode p q r s t = 2) := by
        show _ ∧ _ ∧ _; simp [posX, posY, posCode, posOk, h1, h2]
      go_enter Try.func42, Try.ntmps42
      go_wp2_with fail
      refine (sTrack_any _ _ _ _ _).mono ?_
      rintro en w1 ⟨rfl, hb1⟩
      have hB1 : Below w.heap.size w w1 := by first | exact hb1 | exact Below.trans (by (go_grown; done)) (hb1.mono (by (go_size; done)))
      have f1 : w1.cell? ⟨w.heap.size + 1, 0, none⟩ = some (.int .i64 0) := (hb1.cell (p := ⟨w.heap.size + 1, 0, none⟩) (by first | (go_size; done) | (simp; done) | (simp <;> omega))).trans (by go_simp)
      have z1 : w1.frozen? ⟨w.heap.size + 1, 0, none⟩ = false := (hb1.frozen (p := ⟨w.heap.size + 1, 0, none⟩) (by first | (go_size; done) | (simp; done) | (simp <;> omega))).trans (by go_simp)
      have f2 : w1.cell? ⟨w.heap.size + 1, 1, none⟩ = some (.int .i64 0) := (hb1.cell (p := ⟨w.heap.size + 1, 1, none⟩) (by first | (go_size; done) | (simp; done) | (simp <;> omega))).trans (by go_simp)
      have z2 : w1.frozen? ⟨w.heap.size + 1, 1, none⟩ = false := (hb1.frozen (p := ⟨w.heap.size + 1, 1, none⟩) (by first | (go_size; done) | (simp; done) | (simp <;> omega))).trans (by go_simp)
      have f3 : w1.cell? ⟨w.heap.size, 0, none⟩ = some (.int .i64 p) := (hb1.cell (p := ⟨w.heap.size, 0, none⟩) (by first | (go_size; done) | (simp; done) | (simp <;> omega))).trans (by go_simp)
      have f4 : w1.cell? ⟨w.heap.size, 1, none⟩ = some (.int .i64 q) := (hb1.cell (p := ⟨w.heap.size, 1, none⟩) (by first | (go_size; done) | (simp; done) | (simp <;> omega))).trans (by go_simp)
      have f5 : w1.cell? ⟨w.heap.size, 2, none⟩ = some (.int .i64 r) := (hb1.cell (p := ⟨w.heap.size, 2, none⟩) (by first | (go_size; done) | (simp; done) | (simp <;> omega))).trans (by go_simp)
      have f6 : w1.cell? ⟨w.heap.size, 3, none⟩ = some (.int .i64 s) := (hb1.cell (p := ⟨w.heap.size, 3, none⟩) (by first | (go_size; done) | (simp; done) | (simp <;> omega))).trans (by go_simp)
      have l7 : w.heap.size + 1 < w1.heap.size := World.block_lt_of_cell? _ _ f1
      have l8 : w.heap.size < w1.heap.size := World.block_lt_of_cell? _ _ f3
      have hZ1 := hB1.size
      go_wp2_with (first | (go_at_call 74; refine (l01In_any _ _ _ _).mono ?_; rintro en w1 ⟨rfl, rfl⟩))
      refine bodyPost_ret (v := .tuple #[.agg #[.int .i64 (posX p q r s t), .int .i64 (posY p q r s t)], .int .i64 (posCode p q r s t)]) (by rw [HV.out.1, HV.out.2.1, HV.out.2.2]; simp [results, Try.results42, go_sem, f1, f2, f3, f4, f5, f6, z1, z2]) rfl ⟨rfl, by have hx := hB1; go_grown⟩
  · have HV : Hid (posX p q r s t = 0 ∧ posY p q r s t = 0 ∧ posCode p q r s t = 1) := by
      show _ ∧ _ ∧ _; simp [posX, posY, posCode, posOk, h1]
    go_enter Try.func42, Try.ntmps42
    go_wp2_with fail
    refine (sTrack_any _ _ _ _ _).mono ?_
    rintro en w1 ⟨rfl, hb1⟩
    have hB1 : Below w.heap.size w w1 := by first | exact hb1 | exact Below.trans (by (go_grown; done)) (hb1.mono (by (go_size; done)))
    have f1 : w1.cell? ⟨w.heap.size + 1, 0, none⟩ = some (.int .i64 0) := (hb1.cell (p := ⟨w.heap.size + 1, 0, none⟩) (by first | (go_size; done) | (simp; done) | (simp <;> omega))).trans (by go_simp)
    have z1 : w1.frozen? ⟨w.heap.size + 1, 0, none⟩ = false := (hb1.frozen (p := ⟨w.heap.size + 1, 0, none⟩) (by first | (go_size; done) | (simp; done) | (simp <;> omega))).trans (by go_simp)
    have f2 : w1.cell? ⟨w.heap.size + 1, 1, none⟩ = some (.int .i64 0) := (hb1.cell (p := ⟨w.heap.size + 1, 1, none⟩) (by first | (go_size; done) | (simp; done) | (simp <;> omega))).trans (by go_simp)
    have z2 : w1.frozen? ⟨w.heap.size + 1, 1, none⟩ = false := (hb1.frozen (p := ⟨w.heap.size + 1, 1, none⟩) (by first | (go_size; done) | (simp; done) | (simp <;> omega))).trans (by go_simp)
    have f3 : w1.cell? ⟨w.heap.size, 0, none⟩ = some (.int .i64 p) := (hb1.cell (p := ⟨w.heap.size, 0, none⟩) (by first | (go_size; done) | (simp; done) | (simp <;> omega))).trans (by go_simp)
    have f4 : w1.cell? ⟨w.heap.size, 1, none⟩ = some (.int .i64 q) := (hb1.cell (p := ⟨w.heap.size, 1, none⟩) (by first | (go_size; done) | (simp; done) | (simp <;> omega))).trans (by go_simp)
    have f5 : w1.cell? ⟨w.heap.size, 2, none⟩ = some (.int .i64 r) := (hb1.cell (p := ⟨w.heap.size, 2, none⟩) (by first | (go_size; done) | (simp; done) | (simp <;> omega))).trans (by go_simp)
    have f6 : w1.cell? ⟨w.heap.size, 3, none⟩ = some (.int .i64 s) := (hb1.cell (p := ⟨w.heap.size, 3, none⟩) (by first | (go_size; done) | (simp; done) | (simp <;> omega))).trans (by go_simp)
    have l7 : w.heap.size + 1 < w1.heap.size := World.block_lt_of_cell? _ _ f1
    have l8 : w.heap.size < w1.heap.size := World.block_lt_of_cell? _ _ f3
    have hZ1 := hB1.size
    go_wp2_with (first | (go_at_call 74; refine (l01In_any _ _ _ _).mono ?_; rintro en w1 ⟨rfl, rfl⟩))
    refine bodyPost_ret (v := .tuple #[.agg #[.int .i64 (posX p q r s t), .int .i64 (posY p q r s t)], .int .i64 (posCode p q r s t)]) (by rw [HV.out.1, HV.out.2.1, HV.out.2.2]; simp [results, Try.results42, go_sem, f1, f2, f3, f4, f5, f6, z1, z2]) rfl ⟨rfl, by have hx := hB1; go_grown⟩
end Go.Proofs.Ytoccglmlpobeeaa
