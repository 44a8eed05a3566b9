/- walks: CrossFix, the program -/
import Derived.Test.YtoccglmlpobeeaaW18p
set_option linter.unusedVariables false
set_option linter.unusedSimpArgs false
namespace Go.Proofs.Ytoccglmlpobeeaa
open Go.RowKit

set_option maxRecDepth 100000 in
set_option maxHeartbeats 32000000 in
theorem iFixNo_any (a b c d e f g h : Int) (w : World) (hok : fxOk a b c d e f g h = false) :
    Calls Try.prog 61 #[.agg #[.int .i64 a, .int .i64 b], .agg #[.int .i64 c, .int .i64 d], .agg #[.int .i64 e, .int .i64 f], .agg #[.int .i64 g, .int .i64 h]] w fun en w9 => en = .returned (.tuple #[.agg #[.int .i64 (fxR ratX false a b c d e f g h), .int .i64 (fxR ratY false a b c d e f g h)], .agg #[.int .i64 (fxR ratX true a b c d e f g h), .int .i64 (fxR ratY true a b c d e f g h)], .int .i64 (fxCode a b c d e f g h)]) ∧ Below w.heap.size w w9 := by
  have hc : fxCode a b c d e f g h = 1 := by unfold fxCode; rw [if_neg (by rw [hok]; decide)]
  have HV : Hid (fxR ratX false a b c d e f g h = 0 ∧ fxR ratY false a b c d e f g h = 0 ∧ fxR ratX true a b c d e f g h = 0 ∧ fxR ratY true a b c d e f g h = 0 ∧ fxCode a b c d e f g h = 1) := by show _ ∧ _ ∧ _ ∧ _ ∧ _; unfold fxR; rw [hc]; exact ⟨rfl, rfl, rfl, rfl, rfl⟩
  clear hc
  rcases fxOk_no hok with o1 | ⟨o1, o2⟩ | ⟨o1, o2, o3⟩ | ⟨o1, o2, o3, o4⟩
  all_goals clear hok
  · go_enter Try.func61, Try.ntmps61
    go_wp2_with fail
    refine (isPoint_any _ _ _).mono ?_
    rintro en w1 ⟨rfl, hb1⟩
    have hB1 : Below w.heap.size w w1 := by first | exact hb1 | exact Below.trans (by repeat (first | exact Below.refl _ _ | refine Below.drew ?_ | refine below_drewN ?_ _ | refine Below.alloc ?_ (by (try simp only [World.size_alloc, World.size_drew, size_drewN, World.size_setCell]); omega) _ | refine Below.setCell ?_ (by (try dsimp only); omega) _)) (hb1.mono (by (try simp only [World.size_alloc, World.size_drew, size_drewN, World.size_setCell]); omega))
    have f1 : w1.cell? ⟨w.heap.size, 0, none⟩ = some (.int .i64 a) := (hb1.cell (p := ⟨w.heap.size, 0, none⟩) (by first | (go_size; done) | (simp; done) | (simp <;> omega))).trans (by go_simp)
    have f2 : w1.cell? ⟨w.heap.size, 1, none⟩ = some (.int .i64 b) := (hb1.cell (p := ⟨w.heap.size, 1, none⟩) (by first | (go_size; done) | (simp; done) | (simp <;> omega))).trans (by go_simp)
    have f3 : w1.cell? ⟨w.heap.size + 1, 0, none⟩ = some (.int .i64 c) := (hb1.cell (p := ⟨w.heap.size + 1, 0, none⟩) (by first | (go_size; done) | (simp; done) | (simp <;> omega))).trans (by go_simp)
    have f4 : w1.cell? ⟨w.heap.size + 1, 1, none⟩ = some (.int .i64 d) := (hb1.cell (p := ⟨w.heap.size + 1, 1, none⟩) (by first | (go_size; done) | (simp; done) | (simp <;> omega))).trans (by go_simp)
    have f5 : w1.cell? ⟨w.heap.size + 2, 0, none⟩ = some (.int .i64 e) := (hb1.cell (p := ⟨w.heap.size + 2, 0, none⟩) (by first | (go_size; done) | (simp; done) | (simp <;> omega))).trans (by go_simp)
    have f6 : w1.cell? ⟨w.heap.size + 2, 1, none⟩ = some (.int .i64 f) := (hb1.cell (p := ⟨w.heap.size + 2, 1, none⟩) (by first | (go_size; done) | (simp; done) | (simp <;> omega))).trans (by go_simp)
    have f7 : w1.cell? ⟨w.heap.size + 3, 0, none⟩ = some (.int .i64 g) := (hb1.cell (p := ⟨w.heap.size + 3, 0, none⟩) (by first | (go_size; done) | (simp; done) | (simp <;> omega))).trans (by go_simp)
    have f8 : w1.cell? ⟨w.heap.size + 3, 1, none⟩ = some (.int .i64 h) := (hb1.cell (p := ⟨w.heap.size + 3, 1, none⟩) (by first | (go_size; done) | (simp; done) | (simp <;> omega))).trans (by go_simp)
    have f9 : w1.cell? ⟨w.heap.size + 4, 0, none⟩ = some (.int .i64 0) := (hb1.cell (p := ⟨w.heap.size + 4, 0, none⟩) (by first | (go_size; done) | (simp; done) | (simp <;> omega))).trans (by go_simp)
    have z9 : w1.frozen? ⟨w.heap.size + 4, 0, none⟩ = false := (hb1.frozen (p := ⟨w.heap.size + 4, 0, none⟩) (by first | (go_size; done) | (simp; done) | (simp <;> omega))).trans (by go_simp)
    have f10 : w1.cell? ⟨w.heap.size + 4, 1, none⟩ = some (.int .i64 0) := (hb1.cell (p := ⟨w.heap.size + 4, 1, none⟩) (by first | (go_size; done) | (simp; done) | (simp <;> omega))).trans (by go_simp)
    have z10 : w1.frozen? ⟨w.heap.size + 4, 1, none⟩ = false := (hb1.frozen (p := ⟨w.heap.size + 4, 1, none⟩) (by first | (go_size; done) | (simp; done) | (simp <;> omega))).trans (by go_simp)
    have f11 : w1.cell? ⟨w.heap.size + 5, 0, none⟩ = some (.int .i64 0) := (hb1.cell (p := ⟨w.heap.size + 5, 0, none⟩) (by first | (go_size; done) | (simp; done) | (simp <;> omega))).trans (by go_simp)
    have z11 : w1.frozen? ⟨w.heap.size + 5, 0, none⟩ = false := (hb1.frozen (p := ⟨w.heap.size + 5, 0, none⟩) (by first | (go_size; done) | (simp; done) | (simp <;> omega))).trans (by go_simp)
    have f12 : w1.cell? ⟨w.heap.size + 5, 1, none⟩ = some (.int .i64 0) := (hb1.cell (p := ⟨w.heap.size + 5, 1, none⟩) (by first | (go_size; done) | (simp; done) | (simp <;> omega))).trans (by go_simp)
    have z12 : w1.frozen? ⟨w.heap.size + 5, 1, none⟩ = false := (hb1.frozen (p := ⟨w.heap.size + 5, 1, none⟩) (by first | (go_size; done) | (simp; done) | (simp <;> omega))).trans (by go_simp)
    have l13 : w.heap.size < w1.heap.size := World.block_lt_of_cell? _ _ f1
    have l14 : w.heap.size + 1 < w1.heap.size := World.block_lt_of_cell? _ _ f3
    have l15 : w.heap.size + 2 < w1.heap.size := World.block_lt_of_cell? _ _ f5
    have l16 : w.heap.size + 3 < w1.heap.size := World.block_lt_of_cell? _ _ f7
    have l17 : w.heap.size + 4 < w1.heap.size := World.block_lt_of_cell? _ _ f9
    have l18 : w.heap.size + 5 < w1.heap.size := World.block_lt_of_cell? _ _ f11
    have hZ1 := hB1.size
    go_wp2_with ((with_reducible refine bodyPost_ret (v := .tuple #[.agg #[.int .i64 (fxR ratX false a b c d e f g h), .int .i64 (fxR ratY false a b c d e f g h)], .agg #[.int .i64 (fxR ratX true a b c d e f g h), .int .i64 (fxR ratY true a b c d e f g h)], .int .i64 (fxCode a b c d e f g h)]) ?_ rfl ⟨rfl, ?_⟩); rotate_left; (focus (have hx := hB1; first | (go_grown; done) | (repeat (first | exact hx | exact Below.refl _ _ | refine Below.drew ?_ | refine below_drewN ?_ _ | refine Below.alloc ?_ (by (try simp only [World.size_alloc, World.size_drew, size_drewN, World.size_setCell]); omega) _ | refine Below.setCell ?_ (by (try dsimp only); omega) _); done) | exact below_drewN (by go_grown) _)); (focus (rw [HV.out.1, HV.out.2.1, HV.out.2.2.1, HV.out.2.2.2.1, HV.out.2.2.2.2]; simp [results, Try.results61, go_sem, f1, f2, f3, f4, f5, f6, f7, f8, f9, f10, f11, f12, z9, z10, z11, z12, l13, Nat.ne_of_lt l13, l14, Nat.ne_of_lt l14, l15, Nat.ne_of_lt l15, l16, Nat.ne_of_lt l16, l17, Nat.ne_of_lt l17, l18, Nat.ne_of_lt l18])))
  · go_enter Try.func61, Try.ntmps61
    go_wp2_with fail
    refine (isPoint_any _ _ _).mono ?_
    rintro en w1 ⟨rfl, hb1⟩
    have hB1 : Below w.heap.size w w1 := by first | exact hb1 | exact Below.trans (by repeat (first | exact Below.refl _ _ | refine Below.drew ?_ | refine below_drewN ?_ _ | refine Below.alloc ?_ (by (try simp only [World.size_alloc, World.size_drew, size_drewN, World.size_setCell]); omega) _ | refine Below.setCell ?_ (by (try dsimp only); omega) _)) (hb1.mono (by (try simp only [World.size_alloc, World.size_drew, size_drewN, World.size_setCell]); omega))
    have f1 : w1.cell? ⟨w.heap.size, 0, none⟩ = some (.int .i64 a) := (hb1.cell (p := ⟨w.heap.size, 0, none⟩) (by first | (go_size; done) | (simp; done) | (simp <;> omega))).trans (by go_simp)
    have f2 : w1.cell? ⟨w.heap.size, 1, none⟩ = some (.int .i64 b) := (hb1.cell (p := ⟨w.heap.size, 1, none⟩) (by first | (go_size; done) | (simp; done) | (simp <;> omega))).trans (by go_simp)
    have f3 : w1.cell? ⟨w.heap.size + 1, 0, none⟩ = some (.int .i64 c) := (hb1.cell (p := ⟨w.heap.size + 1, 0, none⟩) (by first | (go_size; done) | (simp; done) | (simp <;> omega))).trans (by go_simp)
    have f4 : w1.cell? ⟨w.heap.size + 1, 1, none⟩ = some (.int .i64 d) := (hb1.cell (p := ⟨w.heap.size + 1, 1, none⟩) (by first | (go_size; done) | (simp; done) | (simp <;> omega))).trans (by go_simp)
    have f5 : w1.cell? ⟨w.heap.size + 2, 0, none⟩ = some (.int .i64 e) := (hb1.cell (p := ⟨w.heap.size + 2, 0, none⟩) (by first | (go_size; done) | (simp; done) | (simp <;> omega))).trans (by go_simp)
    have f6 : w1.cell? ⟨w.heap.size + 2, 1, none⟩ = some (.int .i64 f) := (hb1.cell (p := ⟨w.heap.size + 2, 1, none⟩) (by first | (go_size; done) | (simp; done) | (simp <;> omega))).trans (by go_simp)
    have f7 : w1.cell? ⟨w.heap.size + 3, 0, none⟩ = some (.int .i64 g) := (hb1.cell (p := ⟨w.heap.size + 3, 0, none⟩) (by first | (go_size; done) | (simp; done) | (simp <;> omega))).trans (by go_simp)
    have f8 : w1.cell? ⟨w.heap.size + 3, 1, none⟩ = some (.int .i64 h) := (hb1.cell (p := ⟨w.heap.size + 3, 1, none⟩) (by first | (go_size; done) | (simp; done) | (simp <;> omega))).trans (by go_simp)
    have f9 : w1.cell? ⟨w.heap.size + 4, 0, none⟩ = some (.int .i64 0) := (hb1.cell (p := ⟨w.heap.size + 4, 0, none⟩) (by first | (go_size; done) | (simp; done) | (simp <;> omega))).trans (by go_simp)
    have z9 : w1.frozen? ⟨w.heap.size + 4, 0, none⟩ = false := (hb1.frozen (p := ⟨w.heap.size + 4, 0, none⟩) (by first | (go_size; done) | (simp; done) | (simp <;> omega))).trans (by go_simp)
    have f10 : w1.cell? ⟨w.heap.size + 4, 1, none⟩ = some (.int .i64 0) := (hb1.cell (p := ⟨w.heap.size + 4, 1, none⟩) (by first | (go_size; done) | (simp; done) | (simp <;> omega))).trans (by go_simp)
    have z10 : w1.frozen? ⟨w.heap.size + 4, 1, none⟩ = false := (hb1.frozen (p := ⟨w.heap.size + 4, 1, none⟩) (by first | (go_size; done) | (simp; done) | (simp <;> omega))).trans (by go_simp)
    have f11 : w1.cell? ⟨w.heap.size + 5, 0, none⟩ = some (.int .i64 0) := (hb1.cell (p := ⟨w.heap.size + 5, 0, none⟩) (by first | (go_size; done) | (simp; done) | (simp <;> omega))).trans (by go_simp)
    have z11 : w1.frozen? ⟨w.heap.size + 5, 0, none⟩ = false := (hb1.frozen (p := ⟨w.heap.size + 5, 0, none⟩) (by first | (go_size; done) | (simp; done) | (simp <;> omega))).trans (by go_simp)
    have f12 : w1.cell? ⟨w.heap.size + 5, 1, none⟩ = some (.int .i64 0) := (hb1.cell (p := ⟨w.heap.size + 5, 1, none⟩) (by first | (go_size; done) | (simp; done) | (simp <;> omega))).trans (by go_simp)
    have z12 : w1.frozen? ⟨w.heap.size + 5, 1, none⟩ = false := (hb1.frozen (p := ⟨w.heap.size + 5, 1, none⟩) (by first | (go_size; done) | (simp; done) | (simp <;> omega))).trans (by go_simp)
    have l13 : w.heap.size < w1.heap.size := World.block_lt_of_cell? _ _ f1
    have l14 : w.heap.size + 1 < w1.heap.size := World.block_lt_of_cell? _ _ f3
    have l15 : w.heap.size + 2 < w1.heap.size := World.block_lt_of_cell? _ _ f5
    have l16 : w.heap.size + 3 < w1.heap.size := World.block_lt_of_cell? _ _ f7
    have l17 : w.heap.size + 4 < w1.heap.size := World.block_lt_of_cell? _ _ f9
    have l18 : w.heap.size + 5 < w1.heap.size := World.block_lt_of_cell? _ _ f11
    have hZ1 := hB1.size
    go_wp2_with fail
    refine (iBearing_any _ _ _).mono ?_
    rintro en w2 ⟨rfl, hb2⟩
    have hB2 : Below w1.heap.size w1 w2 := by first | exact hb2 | exact Below.trans (by repeat (first | exact Below.refl _ _ | refine Below.drew ?_ | refine below_drewN ?_ _ | refine Below.alloc ?_ (by (try simp only [World.size_alloc, World.size_drew, size_drewN, World.size_setCell]); omega) _ | refine Below.setCell ?_ (by (try dsimp only); omega) _)) (hb2.mono (by (try simp only [World.size_alloc, World.size_drew, size_drewN, World.size_setCell]); omega))
    have f19 := later hB2 f1
    have f20 := later hB2 f2
    have f21 := later hB2 f3
    have f22 := later hB2 f4
    have f23 := later hB2 f5
    have f24 := later hB2 f6
    have f25 := later hB2 f7
    have f26 := later hB2 f8
    have f27 := later hB2 f9
    have z27 := laterF hB2 f9 z9
    have f28 := later hB2 f10
    have z28 := laterF hB2 f10 z10
    have f29 := later hB2 f11
    have z29 := laterF hB2 f11 z11
    have f30 := later hB2 f12
    have z30 := laterF hB2 f12 z12
    have l31 : w.heap.size < w2.heap.size := World.block_lt_of_cell? _ _ f19
    have l32 : w.heap.size + 1 < w2.heap.size := World.block_lt_of_cell? _ _ f21
    have l33 : w.heap.size + 2 < w2.heap.size := World.block_lt_of_cell? _ _ f23
    have l34 : w.heap.size + 3 < w2.heap.size := World.block_lt_of_cell? _ _ f25
    have l35 : w.heap.size + 4 < w2.heap.size := World.block_lt_of_cell? _ _ f27
    have l36 : w.heap.size + 5 < w2.heap.size := World.block_lt_of_cell? _ _ f29
    have hW2 := bseq hB1 (hB2)
    have hZ2 := hW2.size
    go_wp2_with ((with_reducible refine bodyPost_ret (v := .tuple #[.agg #[.int .i64 (fxR ratX false a b c d e f g h), .int .i64 (fxR ratY false a b c d e f g h)], .agg #[.int .i64 (fxR ratX true a b c d e f g h), .int .i64 (fxR ratY true a b c d e f g h)], .int .i64 (fxCode a b c d e f g h)]) ?_ rfl ⟨rfl, ?_⟩); rotate_left; (focus (have hx := hW2; first | (go_grown; done) | (repeat (first | exact hx | exact Below.refl _ _ | refine Below.drew ?_ | refine below_drewN ?_ _ | refine Below.alloc ?_ (by (try simp only [World.size_alloc, World.size_drew, size_drewN, World.size_setCell]); omega) _ | refine Below.setCell ?_ (by (try dsimp only); omega) _); done) | exact below_drewN (by go_grown) _)); (focus (rw [HV.out.1, HV.out.2.1, HV.out.2.2.1, HV.out.2.2.2.1, HV.out.2.2.2.2]; simp [results, Try.results61, go_sem, f19, f20, f21, f22, f23, f24, f25, f26, f27, f28, f29, f30, z27, z28, z29, z30, l31, Nat.ne_of_lt l31, l32, Nat.ne_of_lt l32, l33, Nat.ne_of_lt l33, l34, Nat.ne_of_lt l34, l35, Nat.ne_of_lt l35, l36, Nat.ne_of_lt l36])))
  · go_enter Try.func61, Try.ntmps61
    go_wp2_with fail
    refine (isPoint_any _ _ _).mono ?_
    rintro en w1 ⟨rfl, hb1⟩
    have hB1 : Below w.heap.size w w1 := by first | exact hb1 | exact Below.trans (by repeat (first | exact Below.refl _ _ | refine Below.drew ?_ | refine below_drewN ?_ _ | refine Below.alloc ?_ (by (try simp only [World.size_alloc, World.size_drew, size_drewN, World.size_setCell]); omega) _ | refine Below.setCell ?_ (by (try dsimp only); omega) _)) (hb1.mono (by (try simp only [World.size_alloc, World.size_drew, size_drewN, World.size_setCell]); omega))
    have f1 : w1.cell? ⟨w.heap.size, 0, none⟩ = some (.int .i64 a) := (hb1.cell (p := ⟨w.heap.size, 0, none⟩) (by first | (go_size; done) | (simp; done) | (simp <;> omega))).trans (by go_simp)
    have f2 : w1.cell? ⟨w.heap.size, 1, none⟩ = some (.int .i64 b) := (hb1.cell (p := ⟨w.heap.size, 1, none⟩) (by first | (go_size; done) | (simp; done) | (simp <;> omega))).trans (by go_simp)
    have f3 : w1.cell? ⟨w.heap.size + 1, 0, none⟩ = some (.int .i64 c) := (hb1.cell (p := ⟨w.heap.size + 1, 0, none⟩) (by first | (go_size; done) | (simp; done) | (simp <;> omega))).trans (by go_simp)
    have f4 : w1.cell? ⟨w.heap.size + 1, 1, none⟩ = some (.int .i64 d) := (hb1.cell (p := ⟨w.heap.size + 1, 1, none⟩) (by first | (go_size; done) | (simp; done) | (simp <;> omega))).trans (by go_simp)
    have f5 : w1.cell? ⟨w.heap.size + 2, 0, none⟩ = some (.int .i64 e) := (hb1.cell (p := ⟨w.heap.size + 2, 0, none⟩) (by first | (go_size; done) | (simp; done) | (simp <;> omega))).trans (by go_simp)
    have f6 : w1.cell? ⟨w.heap.size + 2, 1, none⟩ = some (.int .i64 f) := (hb1.cell (p := ⟨w.heap.size + 2, 1, none⟩) (by first | (go_size; done) | (simp; done) | (simp <;> omega))).trans (by go_simp)
    have f7 : w1.cell? ⟨w.heap.size + 3, 0, none⟩ = some (.int .i64 g) := (hb1.cell (p := ⟨w.heap.size + 3, 0, none⟩) (by first | (go_size; done) | (simp; done) | (simp <;> omega))).trans (by go_simp)
    have f8 : w1.cell? ⟨w.heap.size + 3, 1, none⟩ = some (.int .i64 h) := (hb1.cell (p := ⟨w.heap.size + 3, 1, none⟩) (by first | (go_size; done) | (simp; done) | (simp <;> omega))).trans (by go_simp)
    have f9 : w1.cell? ⟨w.heap.size + 4, 0, none⟩ = some (.int .i64 0) := (hb1.cell (p := ⟨w.heap.size + 4, 0, none⟩) (by first | (go_size; done) | (simp; done) | (simp <;> omega))).trans (by go_simp)
    have z9 : w1.frozen? ⟨w.heap.size + 4, 0, none⟩ = false := (hb1.frozen (p := ⟨w.heap.size + 4, 0, none⟩) (by first | (go_size; done) | (simp; done) | (simp <;> omega))).trans (by go_simp)
    have f10 : w1.cell? ⟨w.heap.size + 4, 1, none⟩ = some (.int .i64 0) := (hb1.cell (p := ⟨w.heap.size + 4, 1, none⟩) (by first | (go_size; done) | (simp; done) | (simp <;> omega))).trans (by go_simp)
    have z10 : w1.frozen? ⟨w.heap.size + 4, 1, none⟩ = false := (hb1.frozen (p := ⟨w.heap.size + 4, 1, none⟩) (by first | (go_size; done) | (simp; done) | (simp <;> omega))).trans (by go_simp)
    have f11 : w1.cell? ⟨w.heap.size + 5, 0, none⟩ = some (.int .i64 0) := (hb1.cell (p := ⟨w.heap.size + 5, 0, none⟩) (by first | (go_size; done) | (simp; done) | (simp <;> omega))).trans (by go_simp)
    have z11 : w1.frozen? ⟨w.heap.size + 5, 0, none⟩ = false := (hb1.frozen (p := ⟨w.heap.size + 5, 0, none⟩) (by first | (go_size; done) | (simp; done) | (simp <;> omega))).trans (by go_simp)
    have f12 : w1.cell? ⟨w.heap.size + 5, 1, none⟩ = some (.int .i64 0) := (hb1.cell (p := ⟨w.heap.size + 5, 1, none⟩) (by first | (go_size; done) | (simp; done) | (simp <;> omega))).trans (by go_simp)
    have z12 : w1.frozen? ⟨w.heap.size + 5, 1, none⟩ = false := (hb1.frozen (p := ⟨w.heap.size + 5, 1, none⟩) (by first | (go_size; done) | (simp; done) | (simp <;> omega))).trans (by go_simp)
    have l13 : w.heap.size < w1.heap.size := World.block_lt_of_cell? _ _ f1
    have l14 : w.heap.size + 1 < w1.heap.size := World.block_lt_of_cell? _ _ f3
    have l15 : w.heap.size + 2 < w1.heap.size := World.block_lt_of_cell? _ _ f5
    have l16 : w.heap.size + 3 < w1.heap.size := World.block_lt_of_cell? _ _ f7
    have l17 : w.heap.size + 4 < w1.heap.size := World.block_lt_of_cell? _ _ f9
    have l18 : w.heap.size + 5 < w1.heap.size := World.block_lt_of_cell? _ _ f11
    have hZ1 := hB1.size
    go_wp2_with fail
    refine (iBearing_any _ _ _).mono ?_
    rintro en w2 ⟨rfl, hb2⟩
    have hB2 : Below w1.heap.size w1 w2 := by first | exact hb2 | exact Below.trans (by repeat (first | exact Below.refl _ _ | refine Below.drew ?_ | refine below_drewN ?_ _ | refine Below.alloc ?_ (by (try simp only [World.size_alloc, World.size_drew, size_drewN, World.size_setCell]); omega) _ | refine Below.setCell ?_ (by (try dsimp only); omega) _)) (hb2.mono (by (try simp only [World.size_alloc, World.size_drew, size_drewN, World.size_setCell]); omega))
    have f19 := later hB2 f1
    have f20 := later hB2 f2
    have f21 := later hB2 f3
    have f22 := later hB2 f4
    have f23 := later hB2 f5
    have f24 := later hB2 f6
    have f25 := later hB2 f7
    have f26 := later hB2 f8
    have f27 := later hB2 f9
    have z27 := laterF hB2 f9 z9
    have f28 := later hB2 f10
    have z28 := laterF hB2 f10 z10
    have f29 := later hB2 f11
    have z29 := laterF hB2 f11 z11
    have f30 := later hB2 f12
    have z30 := laterF hB2 f12 z12
    have l31 : w.heap.size < w2.heap.size := World.block_lt_of_cell? _ _ f19
    have l32 : w.heap.size + 1 < w2.heap.size := World.block_lt_of_cell? _ _ f21
    have l33 : w.heap.size + 2 < w2.heap.size := World.block_lt_of_cell? _ _ f23
    have l34 : w.heap.size + 3 < w2.heap.size := World.block_lt_of_cell? _ _ f25
    have l35 : w.heap.size + 4 < w2.heap.size := World.block_lt_of_cell? _ _ f27
    have l36 : w.heap.size + 5 < w2.heap.size := World.block_lt_of_cell? _ _ f29
    have hW2 := bseq hB1 (hB2)
    have hZ2 := hW2.size
    go_wp2_with fail
    refine (isPoint_any _ _ _).mono ?_
    rintro en w3 ⟨rfl, hb3⟩
    have hB3 : Below w2.heap.size w2 w3 := by first | exact hb3 | exact Below.trans (by repeat (first | exact Below.refl _ _ | refine Below.drew ?_ | refine below_drewN ?_ _ | refine Below.alloc ?_ (by (try simp only [World.size_alloc, World.size_drew, size_drewN, World.size_setCell]); omega) _ | refine Below.setCell ?_ (by (try dsimp only); omega) _)) (hb3.mono (by (try simp only [World.size_alloc, World.size_drew, size_drewN, World.size_setCell]); omega))
    have f37 := later hB3 f19
    have f38 := later hB3 f20
    have f39 := later hB3 f21
    have f40 := later hB3 f22
    have f41 := later hB3 f23
    have f42 := later hB3 f24
    have f43 := later hB3 f25
    have f44 := later hB3 f26
    have f45 := later hB3 f27
    have z45 := laterF hB3 f27 z27
    have f46 := later hB3 f28
    have z46 := laterF hB3 f28 z28
    have f47 := later hB3 f29
    have z47 := laterF hB3 f29 z29
    have f48 := later hB3 f30
    have z48 := laterF hB3 f30 z30
    have l49 : w.heap.size < w3.heap.size := World.block_lt_of_cell? _ _ f37
    have l50 : w.heap.size + 1 < w3.heap.size := World.block_lt_of_cell? _ _ f39
    have l51 : w.heap.size + 2 < w3.heap.size := World.block_lt_of_cell? _ _ f41
    have l52 : w.heap.size + 3 < w3.heap.size := World.block_lt_of_cell? _ _ f43
    have l53 : w.heap.size + 4 < w3.heap.size := World.block_lt_of_cell? _ _ f45
    have l54 : w.heap.size + 5 < w3.heap.size := World.block_lt_of_cell? _ _ f47
    have hW3 := bseq hB1 (bseq hB2 (hB3))
    have hZ3 := hW3.size
    go_wp2_with ((with_reducible refine bodyPost_ret (v := .tuple #[.agg #[.int .i64 (fxR ratX false a b c d e f g h), .int .i64 (fxR ratY false a b c d e f g h)], .agg #[.int .i64 (fxR ratX true a b c d e f g h), .int .i64 (fxR ratY true a b c d e f g h)], .int .i64 (fxCode a b c d e f g h)]) ?_ rfl ⟨rfl, ?_⟩); rotate_left; (focus (have hx := hW3; first | (go_grown; done) | (repeat (first | exact hx | exact Below.refl _ _ | refine Below.drew ?_ | refine below_drewN ?_ _ | refine Below.alloc ?_ (by (try simp only [World.size_alloc, World.size_drew, size_drewN, World.size_setCell]); omega) _ | refine Below.setCell ?_ (by (try dsimp only); omega) _); done) | exact below_drewN (by go_grown) _)); (focus (rw [HV.out.1, HV.out.2.1, HV.out.2.2.1, HV.out.2.2.2.1, HV.out.2.2.2.2]; simp [results, Try.results61, go_sem, f37, f38, f39, f40, f41, f42, f43, f44, f45, f46, f47, f48, z45, z46, z47, z48, l49, Nat.ne_of_lt l49, l50, Nat.ne_of_lt l50, l51, Nat.ne_of_lt l51, l52, Nat.ne_of_lt l52, l53, Nat.ne_of_lt l53, l54, Nat.ne_of_lt l54])))
  · go_enter Try.func61, Try.ntmps61
    go_wp2_with fail
    refine (isPoint_any _ _ _).mono ?_
    rintro en w1 ⟨rfl, hb1⟩
    have hB1 : Below w.heap.size w w1 := by first | exact hb1 | exact Below.trans (by repeat (first | exact Below.refl _ _ | refine Below.drew ?_ | refine below_drewN ?_ _ | refine Below.alloc ?_ (by (try simp only [World.size_alloc, World.size_drew, size_drewN, World.size_setCell]); omega) _ | refine Below.setCell ?_ (by (try dsimp only); omega) _)) (hb1.mono (by (try simp only [World.size_alloc, World.size_drew, size_drewN, World.size_setCell]); omega))
    have f1 : w1.cell? ⟨w.heap.size, 0, none⟩ = some (.int .i64 a) := (hb1.cell (p := ⟨w.heap.size, 0, none⟩) (by first | (go_size; done) | (simp; done) | (simp <;> omega))).trans (by go_simp)
    have f2 : w1.cell? ⟨w.heap.size, 1, none⟩ = some (.int .i64 b) := (hb1.cell (p := ⟨w.heap.size, 1, none⟩) (by first | (go_size; done) | (simp; done) | (simp <;> omega))).trans (by go_simp)
    have f3 : w1.cell? ⟨w.heap.size + 1, 0, none⟩ = some (.int .i64 c) := (hb1.cell (p := ⟨w.heap.size + 1, 0, none⟩) (by first | (go_size; done) | (simp; done) | (simp <;> omega))).trans (by go_simp)
    have f4 : w1.cell? ⟨w.heap.size + 1, 1, none⟩ = some (.int .i64 d) := (hb1.cell (p := ⟨w.heap.size + 1, 1, none⟩) (by first | (go_size; done) | (simp; done) | (simp <;> omega))).trans (by go_simp)
    have f5 : w1.cell? ⟨w.heap.size + 2, 0, none⟩ = some (.int .i64 e) := (hb1.cell (p := ⟨w.heap.size + 2, 0, none⟩) (by first | (go_size; done) | (simp; done) | (simp <;> omega))).trans (by go_simp)
    have f6 : w1.cell? ⟨w.heap.size + 2, 1, none⟩ = some (.int .i64 f) := (hb1.cell (p := ⟨w.heap.size + 2, 1, none⟩) (by first | (go_size; done) | (simp; done) | (simp <;> omega))).trans (by go_simp)
    have f7 : w1.cell? ⟨w.heap.size + 3, 0, none⟩ = some (.int .i64 g) := (hb1.cell (p := ⟨w.heap.size + 3, 0, none⟩) (by first | (go_size; done) | (simp; done) | (simp <;> omega))).trans (by go_simp)
    have f8 : w1.cell? ⟨w.heap.size + 3, 1, none⟩ = some (.int .i64 h) := (hb1.cell (p := ⟨w.heap.size + 3, 1, none⟩) (by first | (go_size; done) | (simp; done) | (simp <;> omega))).trans (by go_simp)
    have f9 : w1.cell? ⟨w.heap.size + 4, 0, none⟩ = some (.int .i64 0) := (hb1.cell (p := ⟨w.heap.size + 4, 0, none⟩) (by first | (go_size; done) | (simp; done) | (simp <;> omega))).trans (by go_simp)
    have z9 : w1.frozen? ⟨w.heap.size + 4, 0, none⟩ = false := (hb1.frozen (p := ⟨w.heap.size + 4, 0, none⟩) (by first | (go_size; done) | (simp; done) | (simp <;> omega))).trans (by go_simp)
    have f10 : w1.cell? ⟨w.heap.size + 4, 1, none⟩ = some (.int .i64 0) := (hb1.cell (p := ⟨w.heap.size + 4, 1, none⟩) (by first | (go_size; done) | (simp; done) | (simp <;> omega))).trans (by go_simp)
    have z10 : w1.frozen? ⟨w.heap.size + 4, 1, none⟩ = false := (hb1.frozen (p := ⟨w.heap.size + 4, 1, none⟩) (by first | (go_size; done) | (simp; done) | (simp <;> omega))).trans (by go_simp)
    have f11 : w1.cell? ⟨w.heap.size + 5, 0, none⟩ = some (.int .i64 0) := (hb1.cell (p := ⟨w.heap.size + 5, 0, none⟩) (by first | (go_size; done) | (simp; done) | (simp <;> omega))).trans (by go_simp)
    have z11 : w1.frozen? ⟨w.heap.size + 5, 0, none⟩ = false := (hb1.frozen (p := ⟨w.heap.size + 5, 0, none⟩) (by first | (go_size; done) | (simp; done) | (simp <;> omega))).trans (by go_simp)
    have f12 : w1.cell? ⟨w.heap.size + 5, 1, none⟩ = some (.int .i64 0) := (hb1.cell (p := ⟨w.heap.size + 5, 1, none⟩) (by first | (go_size; done) | (simp; done) | (simp <;> omega))).trans (by go_simp)
    have z12 : w1.frozen? ⟨w.heap.size + 5, 1, none⟩ = false := (hb1.frozen (p := ⟨w.heap.size + 5, 1, none⟩) (by first | (go_size; done) | (simp; done) | (simp <;> omega))).trans (by go_simp)
    have l13 : w.heap.size < w1.heap.size := World.block_lt_of_cell? _ _ f1
    have l14 : w.heap.size + 1 < w1.heap.size := World.block_lt_of_cell? _ _ f3
    have l15 : w.heap.size + 2 < w1.heap.size := World.block_lt_of_cell? _ _ f5
    have l16 : w.heap.size + 3 < w1.heap.size := World.block_lt_of_cell? _ _ f7
    have l17 : w.heap.size + 4 < w1.heap.size := World.block_lt_of_cell? _ _ f9
    have l18 : w.heap.size + 5 < w1.heap.size := World.block_lt_of_cell? _ _ f11
    have hZ1 := hB1.size
    go_wp2_with fail
    refine (iBearing_any _ _ _).mono ?_
    rintro en w2 ⟨rfl, hb2⟩
    have hB2 : Below w1.heap.size w1 w2 := by first | exact hb2 | exact Below.trans (by repeat (first | exact Below.refl _ _ | refine Below.drew ?_ | refine below_drewN ?_ _ | refine Below.alloc ?_ (by (try simp only [World.size_alloc, World.size_drew, size_drewN, World.size_setCell]); omega) _ | refine Below.setCell ?_ (by (try dsimp only); omega) _)) (hb2.mono (by (try simp only [World.size_alloc, World.size_drew, size_drewN, World.size_setCell]); omega))
    have f19 := later hB2 f1
    have f20 := later hB2 f2
    have f21 := later hB2 f3
    have f22 := later hB2 f4
    have f23 := later hB2 f5
    have f24 := later hB2 f6
    have f25 := later hB2 f7
    have f26 := later hB2 f8
    have f27 := later hB2 f9
    have z27 := laterF hB2 f9 z9
    have f28 := later hB2 f10
    have z28 := laterF hB2 f10 z10
    have f29 := later hB2 f11
    have z29 := laterF hB2 f11 z11
    have f30 := later hB2 f12
    have z30 := laterF hB2 f12 z12
    have l31 : w.heap.size < w2.heap.size := World.block_lt_of_cell? _ _ f19
    have l32 : w.heap.size + 1 < w2.heap.size := World.block_lt_of_cell? _ _ f21
    have l33 : w.heap.size + 2 < w2.heap.size := World.block_lt_of_cell? _ _ f23
    have l34 : w.heap.size + 3 < w2.heap.size := World.block_lt_of_cell? _ _ f25
    have l35 : w.heap.size + 4 < w2.heap.size := World.block_lt_of_cell? _ _ f27
    have l36 : w.heap.size + 5 < w2.heap.size := World.block_lt_of_cell? _ _ f29
    have hW2 := bseq hB1 (hB2)
    have hZ2 := hW2.size
    go_wp2_with fail
    refine (isPoint_any _ _ _).mono ?_
    rintro en w3 ⟨rfl, hb3⟩
    have hB3 : Below w2.heap.size w2 w3 := by first | exact hb3 | exact Below.trans (by repeat (first | exact Below.refl _ _ | refine Below.drew ?_ | refine below_drewN ?_ _ | refine Below.alloc ?_ (by (try simp only [World.size_alloc, World.size_drew, size_drewN, World.size_setCell]); omega) _ | refine Below.setCell ?_ (by (try dsimp only); omega) _)) (hb3.mono (by (try simp only [World.size_alloc, World.size_drew, size_drewN, World.size_setCell]); omega))
    have f37 := later hB3 f19
    have f38 := later hB3 f20
    have f39 := later hB3 f21
    have f40 := later hB3 f22
    have f41 := later hB3 f23
    have f42 := later hB3 f24
    have f43 := later hB3 f25
    have f44 := later hB3 f26
    have f45 := later hB3 f27
    have z45 := laterF hB3 f27 z27
    have f46 := later hB3 f28
    have z46 := laterF hB3 f28 z28
    have f47 := later hB3 f29
    have z47 := laterF hB3 f29 z29
    have f48 := later hB3 f30
    have z48 := laterF hB3 f30 z30
    have l49 : w.heap.size < w3.heap.size := World.block_lt_of_cell? _ _ f37
    have l50 : w.heap.size + 1 < w3.heap.size := World.block_lt_of_cell? _ _ f39
    have l51 : w.heap.size + 2 < w3.heap.size := World.block_lt_of_cell? _ _ f41
    have l52 : w.heap.size + 3 < w3.heap.size := World.block_lt_of_cell? _ _ f43
    have l53 : w.heap.size + 4 < w3.heap.size := World.block_lt_of_cell? _ _ f45
    have l54 : w.heap.size + 5 < w3.heap.size := World.block_lt_of_cell? _ _ f47
    have hW3 := bseq hB1 (bseq hB2 (hB3))
    have hZ3 := hW3.size
    go_wp2_with fail
    refine (iBearing_any _ _ _).mono ?_
    rintro en w4 ⟨rfl, hb4⟩
    have hB4 : Below w3.heap.size w3 w4 := by first | exact hb4 | exact Below.trans (by repeat (first | exact Below.refl _ _ | refine Below.drew ?_ | refine below_drewN ?_ _ | refine Below.alloc ?_ (by (try simp only [World.size_alloc, World.size_drew, size_drewN, World.size_setCell]); omega) _ | refine Below.setCell ?_ (by (try dsimp only); omega) _)) (hb4.mono (by (try simp only [World.size_alloc, World.size_drew, size_drewN, World.size_setCell]); omega))
    have f55 := later hB4 f37
    have f56 := later hB4 f38
    have f57 := later hB4 f39
    have f58 := later hB4 f40
    have f59 := later hB4 f41
    have f60 := later hB4 f42
    have f61 := later hB4 f43
    have f62 := later hB4 f44
    have f63 := later hB4 f45
    have z63 := laterF hB4 f45 z45
    have f64 := later hB4 f46
    have z64 := laterF hB4 f46 z46
    have f65 := later hB4 f47
    have z65 := laterF hB4 f47 z47
    have f66 := later hB4 f48
    have z66 := laterF hB4 f48 z48
    have l67 : w.heap.size < w4.heap.size := World.block_lt_of_cell? _ _ f55
    have l68 : w.heap.size + 1 < w4.heap.size := World.block_lt_of_cell? _ _ f57
    have l69 : w.heap.size + 2 < w4.heap.size := World.block_lt_of_cell? _ _ f59
    have l70 : w.heap.size + 3 < w4.heap.size := World.block_lt_of_cell? _ _ f61
    have l71 : w.heap.size + 4 < w4.heap.size := World.block_lt_of_cell? _ _ f63
    have l72 : w.heap.size + 5 < w4.heap.size := World.block_lt_of_cell? _ _ f65
    have hW4 := bseq hB1 (bseq hB2 (bseq hB3 (hB4)))
    have hZ4 := hW4.size
    go_wp2_with ((with_reducible refine bodyPost_ret (v := .tuple #[.agg #[.int .i64 (fxR ratX false a b c d e f g h), .int .i64 (fxR ratY false a b c d e f g h)], .agg #[.int .i64 (fxR ratX true a b c d e f g h), .int .i64 (fxR ratY true a b c d e f g h)], .int .i64 (fxCode a b c d e f g h)]) ?_ rfl ⟨rfl, ?_⟩); rotate_left; (focus (have hx := hW4; first | (go_grown; done) | (repeat (first | exact hx | exact Below.refl _ _ | refine Below.drew ?_ | refine below_drewN ?_ _ | refine Below.alloc ?_ (by (try simp only [World.size_alloc, World.size_drew, size_drewN, World.size_setCell]); omega) _ | refine Below.setCell ?_ (by (try dsimp only); omega) _); done) | exact below_drewN (by go_grown) _)); (focus (rw [HV.out.1, HV.out.2.1, HV.out.2.2.1, HV.out.2.2.2.1, HV.out.2.2.2.2]; simp [results, Try.results61, go_sem, f55, f56, f57, f58, f59, f60, f61, f62, f63, f64, f65, f66, z63, z64, z65, z66, l67, Nat.ne_of_lt l67, l68, Nat.ne_of_lt l68, l69, Nat.ne_of_lt l69, l70, Nat.ne_of_lt l70, l71, Nat.ne_of_lt l71, l72, Nat.ne_of_lt l72])))

set_option maxRecDepth 100000 in
set_option maxHeartbeats 32000000 in
theorem iFixYes_any (a b c d e f g h : Int) (w : World) (hok : fxOk a b c d e f g h = true) :
    Calls Try.prog 61 #[.agg #[.int .i64 a, .int .i64 b], .agg #[.int .i64 c, .int .i64 d], .agg #[.int .i64 e, .int .i64 f], .agg #[.int .i64 g, .int .i64 h]] w fun en w9 => en = .returned (.tuple #[.agg #[.int .i64 (fxR ratX false a b c d e f g h), .int .i64 (fxR ratY false a b c d e f g h)], .agg #[.int .i64 (fxR ratX true a b c d e f g h), .int .i64 (fxR ratY true a b c d e f g h)], .int .i64 (fxCode a b c d e f g h)]) ∧ Below w.heap.size w w9 := by
  have kb := fx_bd hok
  have ba := kb.a; have bb := kb.b; have bc := kb.c; have bd := kb.d; have be := kb.e; have bf := kb.f; have bg := kb.g; have bh := kb.h
  clear kb
  obtain ⟨o1, o2, o3, o4⟩ := fxOk_yes hok
  obtain ⟨bD, bT, m1, m2, m3, m4, ea, eb⟩ := fx_big hok

  have HK := Lib.hid hok
  clear hok
  go_enter Try.func61, Try.ntmps61
  go_wp2_with fail
  refine (isPoint_any _ _ _).mono ?_
  rintro en w1 ⟨rfl, hb1⟩
  have hB1 : Below w.heap.size w w1 := by first | exact hb1 | exact Below.trans (by repeat (first | exact Below.refl _ _ | refine Below.drew ?_ | refine below_drewN ?_ _ | refine Below.alloc ?_ (by (try simp only [World.size_alloc, World.size_drew, size_drewN, World.size_setCell]); omega) _ | refine Below.setCell ?_ (by (try dsimp only); omega) _)) (hb1.mono (by (try simp only [World.size_alloc, World.size_drew, size_drewN, World.size_setCell]); omega))
  have f1 : w1.cell? ⟨w.heap.size, 0, none⟩ = some (.int .i64 a) := (hb1.cell (p := ⟨w.heap.size, 0, none⟩) (by first | (go_size; done) | (simp; done) | (simp <;> omega))).trans (by go_simp)
  have f2 : w1.cell? ⟨w.heap.size, 1, none⟩ = some (.int .i64 b) := (hb1.cell (p := ⟨w.heap.size, 1, none⟩) (by first | (go_size; done) | (simp; done) | (simp <;> omega))).trans (by go_simp)
  have f3 : w1.cell? ⟨w.heap.size + 1, 0, none⟩ = some (.int .i64 c) := (hb1.cell (p := ⟨w.heap.size + 1, 0, none⟩) (by first | (go_size; done) | (simp; done) | (simp <;> omega))).trans (by go_simp)
  have f4 : w1.cell? ⟨w.heap.size + 1, 1, none⟩ = some (.int .i64 d) := (hb1.cell (p := ⟨w.heap.size + 1, 1, none⟩) (by first | (go_size; done) | (simp; done) | (simp <;> omega))).trans (by go_simp)
  have f5 : w1.cell? ⟨w.heap.size + 2, 0, none⟩ = some (.int .i64 e) := (hb1.cell (p := ⟨w.heap.size + 2, 0, none⟩) (by first | (go_size; done) | (simp; done) | (simp <;> omega))).trans (by go_simp)
  have f6 : w1.cell? ⟨w.heap.size + 2, 1, none⟩ = some (.int .i64 f) := (hb1.cell (p := ⟨w.heap.size + 2, 1, none⟩) (by first | (go_size; done) | (simp; done) | (simp <;> omega))).trans (by go_simp)
  have f7 : w1.cell? ⟨w.heap.size + 3, 0, none⟩ = some (.int .i64 g) := (hb1.cell (p := ⟨w.heap.size + 3, 0, none⟩) (by first | (go_size; done) | (simp; done) | (simp <;> omega))).trans (by go_simp)
  have f8 : w1.cell? ⟨w.heap.size + 3, 1, none⟩ = some (.int .i64 h) := (hb1.cell (p := ⟨w.heap.size + 3, 1, none⟩) (by first | (go_size; done) | (simp; done) | (simp <;> omega))).trans (by go_simp)
  have f9 : w1.cell? ⟨w.heap.size + 4, 0, none⟩ = some (.int .i64 0) := (hb1.cell (p := ⟨w.heap.size + 4, 0, none⟩) (by first | (go_size; done) | (simp; done) | (simp <;> omega))).trans (by go_simp)
  have z9 : w1.frozen? ⟨w.heap.size + 4, 0, none⟩ = false := (hb1.frozen (p := ⟨w.heap.size + 4, 0, none⟩) (by first | (go_size; done) | (simp; done) | (simp <;> omega))).trans (by go_simp)
  have f10 : w1.cell? ⟨w.heap.size + 4, 1, none⟩ = some (.int .i64 0) := (hb1.cell (p := ⟨w.heap.size + 4, 1, none⟩) (by first | (go_size; done) | (simp; done) | (simp <;> omega))).trans (by go_simp)
  have z10 : w1.frozen? ⟨w.heap.size + 4, 1, none⟩ = false := (hb1.frozen (p := ⟨w.heap.size + 4, 1, none⟩) (by first | (go_size; done) | (simp; done) | (simp <;> omega))).trans (by go_simp)
  have f11 : w1.cell? ⟨w.heap.size + 5, 0, none⟩ = some (.int .i64 0) := (hb1.cell (p := ⟨w.heap.size + 5, 0, none⟩) (by first | (go_size; done) | (simp; done) | (simp <;> omega))).trans (by go_simp)
  have z11 : w1.frozen? ⟨w.heap.size + 5, 0, none⟩ = false := (hb1.frozen (p := ⟨w.heap.size + 5, 0, none⟩) (by first | (go_size; done) | (simp; done) | (simp <;> omega))).trans (by go_simp)
  have f12 : w1.cell? ⟨w.heap.size + 5, 1, none⟩ = some (.int .i64 0) := (hb1.cell (p := ⟨w.heap.size + 5, 1, none⟩) (by first | (go_size; done) | (simp; done) | (simp <;> omega))).trans (by go_simp)
  have z12 : w1.frozen? ⟨w.heap.size + 5, 1, none⟩ = false := (hb1.frozen (p := ⟨w.heap.size + 5, 1, none⟩) (by first | (go_size; done) | (simp; done) | (simp <;> omega))).trans (by go_simp)
  have l13 : w.heap.size < w1.heap.size := World.block_lt_of_cell? _ _ f1
  have l14 : w.heap.size + 1 < w1.heap.size := World.block_lt_of_cell? _ _ f3
  have l15 : w.heap.size + 2 < w1.heap.size := World.block_lt_of_cell? _ _ f5
  have l16 : w.heap.size + 3 < w1.heap.size := World.block_lt_of_cell? _ _ f7
  have l17 : w.heap.size + 4 < w1.heap.size := World.block_lt_of_cell? _ _ f9
  have l18 : w.heap.size + 5 < w1.heap.size := World.block_lt_of_cell? _ _ f11
  have hZ1 := hB1.size
  go_wp2_with fail
  refine (iBearing_any _ _ _).mono ?_
  rintro en w2 ⟨rfl, hb2⟩
  have hB2 : Below w1.heap.size w1 w2 := by first | exact hb2 | exact Below.trans (by repeat (first | exact Below.refl _ _ | refine Below.drew ?_ | refine below_drewN ?_ _ | refine Below.alloc ?_ (by (try simp only [World.size_alloc, World.size_drew, size_drewN, World.size_setCell]); omega) _ | refine Below.setCell ?_ (by (try dsimp only); omega) _)) (hb2.mono (by (try simp only [World.size_alloc, World.size_drew, size_drewN, World.size_setCell]); omega))
  have f19 := later hB2 f1
  have f20 := later hB2 f2
  have f21 := later hB2 f3
  have f22 := later hB2 f4
  have f23 := later hB2 f5
  have f24 := later hB2 f6
  have f25 := later hB2 f7
  have f26 := later hB2 f8
  have f27 := later hB2 f9
  have z27 := laterF hB2 f9 z9
  have f28 := later hB2 f10
  have z28 := laterF hB2 f10 z10
  have f29 := later hB2 f11
  have z29 := laterF hB2 f11 z11
  have f30 := later hB2 f12
  have z30 := laterF hB2 f12 z12
  have l31 : w.heap.size < w2.heap.size := World.block_lt_of_cell? _ _ f19
  have l32 : w.heap.size + 1 < w2.heap.size := World.block_lt_of_cell? _ _ f21
  have l33 : w.heap.size + 2 < w2.heap.size := World.block_lt_of_cell? _ _ f23
  have l34 : w.heap.size + 3 < w2.heap.size := World.block_lt_of_cell? _ _ f25
  have l35 : w.heap.size + 4 < w2.heap.size := World.block_lt_of_cell? _ _ f27
  have l36 : w.heap.size + 5 < w2.heap.size := World.block_lt_of_cell? _ _ f29
  have hW2 := bseq hB1 (hB2)
  have hZ2 := hW2.size
  go_wp2_with fail
  refine (isPoint_any _ _ _).mono ?_
  rintro en w3 ⟨rfl, hb3⟩
  have hB3 : Below w2.heap.size w2 w3 := by first | exact hb3 | exact Below.trans (by repeat (first | exact Below.refl _ _ | refine Below.drew ?_ | refine below_drewN ?_ _ | refine Below.alloc ?_ (by (try simp only [World.size_alloc, World.size_drew, size_drewN, World.size_setCell]); omega) _ | refine Below.setCell ?_ (by (try dsimp only); omega) _)) (hb3.mono (by (try simp only [World.size_alloc, World.size_drew, size_drewN, World.size_setCell]); omega))
  have f37 := later hB3 f19
  have f38 := later hB3 f20
  have f39 := later hB3 f21
  have f40 := later hB3 f22
  have f41 := later hB3 f23
  have f42 := later hB3 f24
  have f43 := later hB3 f25
  have f44 := later hB3 f26
  have f45 := later hB3 f27
  have z45 := laterF hB3 f27 z27
  have f46 := later hB3 f28
  have z46 := laterF hB3 f28 z28
  have f47 := later hB3 f29
  have z47 := laterF hB3 f29 z29
  have f48 := later hB3 f30
  have z48 := laterF hB3 f30 z30
  have l49 : w.heap.size < w3.heap.size := World.block_lt_of_cell? _ _ f37
  have l50 : w.heap.size + 1 < w3.heap.size := World.block_lt_of_cell? _ _ f39
  have l51 : w.heap.size + 2 < w3.heap.size := World.block_lt_of_cell? _ _ f41
  have l52 : w.heap.size + 3 < w3.heap.size := World.block_lt_of_cell? _ _ f43
  have l53 : w.heap.size + 4 < w3.heap.size := World.block_lt_of_cell? _ _ f45
  have l54 : w.heap.size + 5 < w3.heap.size := World.block_lt_of_cell? _ _ f47
  have hW3 := bseq hB1 (bseq hB2 (hB3))
  have hZ3 := hW3.size
  go_wp2_with fail
  refine (iBearing_any _ _ _).mono ?_
  rintro en w4 ⟨rfl, hb4⟩
  have hB4 : Below w3.heap.size w3 w4 := by first | exact hb4 | exact Below.trans (by repeat (first | exact Below.refl _ _ | refine Below.drew ?_ | refine below_drewN ?_ _ | refine Below.alloc ?_ (by (try simp only [World.size_alloc, World.size_drew, size_drewN, World.size_setCell]); omega) _ | refine Below.setCell ?_ (by (try dsimp only); omega) _)) (hb4.mono (by (try simp only [World.size_alloc, World.size_drew, size_drewN, World.size_setCell]); omega))
  have f55 := later hB4 f37
  have f56 := later hB4 f38
  have f57 := later hB4 f39
  have f58 := later hB4 f40
  have f59 := later hB4 f41
  have f60 := later hB4 f42
  have f61 := later hB4 f43
  have f62 := later hB4 f44
  have f63 := later hB4 f45
  have z63 := laterF hB4 f45 z45
  have f64 := later hB4 f46
  have z64 := laterF hB4 f46 z46
  have f65 := later hB4 f47
  have z65 := laterF hB4 f47 z47
  have f66 := later hB4 f48
  have z66 := laterF hB4 f48 z48
  have l67 : w.heap.size < w4.heap.size := World.block_lt_of_cell? _ _ f55
  have l68 : w.heap.size + 1 < w4.heap.size := World.block_lt_of_cell? _ _ f57
  have l69 : w.heap.size + 2 < w4.heap.size := World.block_lt_of_cell? _ _ f59
  have l70 : w.heap.size + 3 < w4.heap.size := World.block_lt_of_cell? _ _ f61
  have l71 : w.heap.size + 4 < w4.heap.size := World.block_lt_of_cell? _ _ f63
  have l72 : w.heap.size + 5 < w4.heap.size := World.block_lt_of_cell? _ _ f65
  have hW4 := bseq hB1 (bseq hB2 (bseq hB3 (hB4)))
  have hZ4 := hW4.size

  have HTS : Hid (∀ X : World, Below w4.heap.size w4 X → X.cell? ⟨w.heap.size, 0, none⟩ = some (.int .i64 a) ∧ X.cell? ⟨w.heap.size, 1, none⟩ = some (.int .i64 b) ∧ X.cell? ⟨w.heap.size + 1, 0, none⟩ = some (.int .i64 c) ∧ X.cell? ⟨w.heap.size + 1, 1, none⟩ = some (.int .i64 d) ∧ X.cell? ⟨w.heap.size + 2, 0, none⟩ = some (.int .i64 e) ∧ X.cell? ⟨w.heap.size + 2, 1, none⟩ = some (.int .i64 f) ∧ X.cell? ⟨w.heap.size + 3, 0, none⟩ = some (.int .i64 g) ∧ X.cell? ⟨w.heap.size + 3, 1, none⟩ = some (.int .i64 h) ∧ Below w4.heap.size w4 X) := fun X hB => ⟨later hB f55, later hB f56, later hB f57, later hB f58, later hB f59, later hB f60, later hB f61, later hB f62, hB⟩
  go_upto_region 3 with fail
  go_cut [12, 11] (fun s12 s11 w9 => ∃ br : Nat, s12 = .pointer (some ⟨br, 0, none⟩) ∧ s11 = .int .i64 (cross c d g h) ∧ w9.cell? ⟨br, 0, none⟩ = some (.int .i64 (e - a)) ∧ w9.cell? ⟨br, 1, none⟩ = some (.int .i64 (f - b)) ∧ w4.heap.size ≤ br ∧ Below w4.heap.size w4 w9)
  case first =>
    go_region_held3 (fun w9 => w9.cell? ⟨w.heap.size, 0, none⟩ = some (.int .i64 a) ∧ w9.cell? ⟨w.heap.size, 1, none⟩ = some (.int .i64 b) ∧ w9.cell? ⟨w.heap.size + 1, 0, none⟩ = some (.int .i64 c) ∧ w9.cell? ⟨w.heap.size + 1, 1, none⟩ = some (.int .i64 d) ∧ w9.cell? ⟨w.heap.size + 2, 0, none⟩ = some (.int .i64 e) ∧ w9.cell? ⟨w.heap.size + 2, 1, none⟩ = some (.int .i64 f) ∧ w9.cell? ⟨w.heap.size + 3, 0, none⟩ = some (.int .i64 g) ∧ w9.cell? ⟨w.heap.size + 3, 1, none⟩ = some (.int .i64 h) ∧ Below w4.heap.size w4 w9) (first | with_reducible assumption | exact HTS.out _ (by repeat (first | assumption | exact Below.refl _ _ | refine Below.drew ?_ | refine Below.alloc ?_ (by (try simp only [World.size_alloc, World.size_drew, World.size_setCell]); omega) _ | refine Below.setCell ?_ (by (try dsimp only); omega) _))) (first | (go_at_call 86; refine (iCross_any _ _ _ _ _).mono ?_; rintro en wx ⟨rfl, hb⟩; have hB9 : Below w4.heap.size w4 wx := Below.trans (b := _) (by repeat (first | assumption | exact Below.refl _ _ | refine Below.drew ?_ | refine Below.alloc ?_ (by (try simp only [World.size_alloc, World.size_drew, World.size_setCell]); omega) _ | refine Below.setCell ?_ (by (try dsimp only); omega) _)) (hb.mono (by (try simp only [World.size_alloc, World.size_drew, World.size_setCell]); omega)); have hz9 := hB9.size; have hz8 := hb.size; (try simp only [World.size_alloc, World.size_drew, World.size_setCell] at hz8); (try have p6 := Nat.lt_of_lt_of_le p5 (by omega : _ ≤ wx.heap.size)); (try have p5 := Nat.lt_of_lt_of_le p4 (by omega : _ ≤ wx.heap.size)); (try have p4 := Nat.lt_of_lt_of_le p3 (by omega : _ ≤ wx.heap.size)); (try have p3 := Nat.lt_of_lt_of_le p2 (by omega : _ ≤ wx.heap.size)); (try have p2 := Nat.lt_of_lt_of_le p1 (by omega : _ ≤ wx.heap.size)); (try have p1 := Nat.lt_of_lt_of_le hz5 (by omega : _ ≤ wx.heap.size)); (try have p0 := Nat.lt_of_lt_of_le hz4 (by omega : _ ≤ wx.heap.size)); (try have hz7 : w4.heap.size < wx.heap.size := (by omega)); (try have hz6 : w4.heap.size + 1 < wx.heap.size := (by omega)); (try have hz5 := Nat.lt_of_succ_le hz8); (try have hz4 := Nat.lt_of_succ_lt hz5); obtain ⟨hc, hf⟩ := bcell hb; clear hb) | (go_at_call 87; refine (iMinus_any _ _ _ _ _).mono ?_; rintro en wx ⟨rfl, hb⟩; have hB9 : Below w4.heap.size w4 wx := Below.trans (b := _) (by repeat (first | assumption | exact Below.refl _ _ | refine Below.drew ?_ | refine Below.alloc ?_ (by (try simp only [World.size_alloc, World.size_drew, World.size_setCell]); omega) _ | refine Below.setCell ?_ (by (try dsimp only); omega) _)) (hb.mono (by (try simp only [World.size_alloc, World.size_drew, World.size_setCell]); omega)); have hz9 := hB9.size; have hz8 := hb.size; (try simp only [World.size_alloc, World.size_drew, World.size_setCell] at hz8); (try have p6 := Nat.lt_of_lt_of_le p5 (by omega : _ ≤ wx.heap.size)); (try have p5 := Nat.lt_of_lt_of_le p4 (by omega : _ ≤ wx.heap.size)); (try have p4 := Nat.lt_of_lt_of_le p3 (by omega : _ ≤ wx.heap.size)); (try have p3 := Nat.lt_of_lt_of_le p2 (by omega : _ ≤ wx.heap.size)); (try have p2 := Nat.lt_of_lt_of_le p1 (by omega : _ ≤ wx.heap.size)); (try have p1 := Nat.lt_of_lt_of_le hz5 (by omega : _ ≤ wx.heap.size)); (try have p0 := Nat.lt_of_lt_of_le hz4 (by omega : _ ≤ wx.heap.size)); (try have hz7 : w4.heap.size < wx.heap.size := (by omega)); (try have hz6 : w4.heap.size + 1 < wx.heap.size := (by omega)); (try have hz5 := Nat.lt_of_succ_le hz8); (try have hz4 := Nat.lt_of_succ_lt hz5); obtain ⟨hc, hf⟩ := bcell hb; clear hb))
    all_goals (go_wp2_with fail; go_meet)
    all_goals refine ⟨_, rfl, rfl, ?_, ?_, ?_, (by repeat (first | assumption | exact Below.refl _ _ | refine Below.drew ?_ | refine Below.alloc ?_ (by (try simp only [World.size_alloc, World.size_drew, World.size_setCell]); omega) _ | refine Below.setCell ?_ (by (try dsimp only); omega) _))⟩
    all_goals (first | go_simp | skip)
    all_goals first | exact World.cell?_setCell_same' _ _ _ (by go_simp) | omega
  case rest =>
    obtain ⟨br, rfl, rfl, brc0, brc1, brs, hxwc⟩ := hcut
    clear HTS
    have hB5 := hxwc
    have f73 := later hB5 f55
    have f74 := later hB5 f56
    have f75 := later hB5 f57
    have f76 := later hB5 f58
    have f77 := later hB5 f59
    have f78 := later hB5 f60
    have f79 := later hB5 f61
    have f80 := later hB5 f62
    have f81 := later hB5 f63
    have z81 := laterF hB5 f63 z63
    have f82 := later hB5 f64
    have z82 := laterF hB5 f64 z64
    have f83 := later hB5 f65
    have z83 := laterF hB5 f65 z65
    have f84 := later hB5 f66
    have z84 := laterF hB5 f66 z66
    have l85 : br < wc.heap.size := World.block_lt_of_cell? _ _ brc0
    have l86 : w.heap.size < wc.heap.size := World.block_lt_of_cell? _ _ f73
    have l87 : w.heap.size + 1 < wc.heap.size := World.block_lt_of_cell? _ _ f75
    have l88 : w.heap.size + 2 < wc.heap.size := World.block_lt_of_cell? _ _ f77
    have l89 : w.heap.size + 3 < wc.heap.size := World.block_lt_of_cell? _ _ f79
    have l90 : w.heap.size + 4 < wc.heap.size := World.block_lt_of_cell? _ _ f81
    have l91 : w.heap.size + 5 < wc.heap.size := World.block_lt_of_cell? _ _ f83
    have hW5 := bseq hB1 (bseq hB2 (bseq hB3 (bseq hB4 (hB5))))
    have hZ5 := hW5.size
    by_cases hD : cross c d g h = 0
    · have hc := fx_zero HK.out hD
      have hne : fxCode a b c d e f g h ≠ 0 := by rw [hc]; decide
      have HV : Hid (fxR ratX false a b c d e f g h = 0 ∧ fxR ratY false a b c d e f g h = 0 ∧ fxR ratX true a b c d e f g h = 0 ∧ fxR ratY true a b c d e f g h = 0 ∧ fxCode a b c d e f g h = 5) := by show _ ∧ _ ∧ _ ∧ _ ∧ _; exact ⟨fxR_none hne, fxR_none hne, fxR_none hne, fxR_none hne, hc⟩
      clear hc hne
      clear HK
      go_wp2_with ((with_reducible refine bodyPost_ret (v := .tuple #[.agg #[.int .i64 (fxR ratX false a b c d e f g h), .int .i64 (fxR ratY false a b c d e f g h)], .agg #[.int .i64 (fxR ratX true a b c d e f g h), .int .i64 (fxR ratY true a b c d e f g h)], .int .i64 (fxCode a b c d e f g h)]) ?_ rfl ⟨rfl, ?_⟩); rotate_left; (focus (have hx := hW5; first | (go_grown; done) | (repeat (first | exact hx | exact Below.refl _ _ | refine Below.drew ?_ | refine below_drewN ?_ _ | refine Below.alloc ?_ (by (try simp only [World.size_alloc, World.size_drew, size_drewN, World.size_setCell]); omega) _ | refine Below.setCell ?_ (by (try dsimp only); omega) _); done) | exact below_drewN (by go_grown) _)); (focus (rw [HV.out.1, HV.out.2.1, HV.out.2.2.1, HV.out.2.2.2.1, HV.out.2.2.2.2]; simp [results, Try.results61, go_sem, brc0, brc1, f73, f74, f75, f76, f77, f78, f79, f80, f81, f82, f83, f84, z81, z82, z83, z84, l85, Nat.ne_of_lt l85, l86, Nat.ne_of_lt l86, l87, Nat.ne_of_lt l87, l88, Nat.ne_of_lt l88, l89, Nat.ne_of_lt l89, l90, Nat.ne_of_lt l90, l91, Nat.ne_of_lt l91])))
    · go_wp2_with fail
      refine (iCross_any _ _ _ _ _).mono ?_
      rintro en w6 ⟨rfl, hb6⟩
      have hB6 : Below wc.heap.size wc w6 := by first | exact hb6 | exact Below.trans (by repeat (first | exact Below.refl _ _ | refine Below.drew ?_ | refine below_drewN ?_ _ | refine Below.alloc ?_ (by (try simp only [World.size_alloc, World.size_drew, size_drewN, World.size_setCell]); omega) _ | refine Below.setCell ?_ (by (try dsimp only); omega) _)) (hb6.mono (by (try simp only [World.size_alloc, World.size_drew, size_drewN, World.size_setCell]); omega))
      have f92 := later hB6 brc0
      have f93 := later hB6 brc1
      have f94 := later hB6 f73
      have f95 := later hB6 f74
      have f96 := later hB6 f75
      have f97 := later hB6 f76
      have f98 := later hB6 f77
      have f99 := later hB6 f78
      have f100 := later hB6 f79
      have f101 := later hB6 f80
      have f102 := later hB6 f81
      have z102 := laterF hB6 f81 z81
      have f103 := later hB6 f82
      have z103 := laterF hB6 f82 z82
      have f104 := later hB6 f83
      have z104 := laterF hB6 f83 z83
      have f105 := later hB6 f84
      have z105 := laterF hB6 f84 z84
      have l106 : br < w6.heap.size := World.block_lt_of_cell? _ _ f92
      have l107 : w.heap.size < w6.heap.size := World.block_lt_of_cell? _ _ f94
      have l108 : w.heap.size + 1 < w6.heap.size := World.block_lt_of_cell? _ _ f96
      have l109 : w.heap.size + 2 < w6.heap.size := World.block_lt_of_cell? _ _ f98
      have l110 : w.heap.size + 3 < w6.heap.size := World.block_lt_of_cell? _ _ f100
      have l111 : w.heap.size + 4 < w6.heap.size := World.block_lt_of_cell? _ _ f102
      have l112 : w.heap.size + 5 < w6.heap.size := World.block_lt_of_cell? _ _ f104
      have hW6 := bseq hB1 (bseq hB2 (bseq hB3 (bseq hB4 (bseq hB5 (hB6)))))
      have hZ6 := hW6.size
      rw [fxT_def a b e f g h]
      have s1 := sgn2 (fxT a b e f g h) (cross c d g h)
      have s2 := sgn2 (fxT a b e f c d) (cross c d g h)
      by_cases t1 : sgn (fxT a b e f g h) * sgn (cross c d g h) < 0
      · have hc := fx_far HK.out hD (.inl t1)
        have hne : fxCode a b c d e f g h ≠ 0 := by rw [hc]; decide
        have HV : Hid (fxR ratX false a b c d e f g h = 0 ∧ fxR ratY false a b c d e f g h = 0 ∧ fxR ratX true a b c d e f g h = 0 ∧ fxR ratY true a b c d e f g h = 0 ∧ fxCode a b c d e f g h = 4) := by show _ ∧ _ ∧ _ ∧ _ ∧ _; exact ⟨fxR_none hne, fxR_none hne, fxR_none hne, fxR_none hne, hc⟩
        clear hc hne
        clear HK
        go_wp2_with fail
        refine (iSign_any _ _).mono ?_
        rintro en wz ⟨rfl, rfl⟩
        go_wp2_with fail
        refine (iSign_any _ _).mono ?_
        rintro en wz ⟨rfl, rfl⟩
        go_wp2_with ((with_reducible refine bodyPost_ret (v := .tuple #[.agg #[.int .i64 (fxR ratX false a b c d e f g h), .int .i64 (fxR ratY false a b c d e f g h)], .agg #[.int .i64 (fxR ratX true a b c d e f g h), .int .i64 (fxR ratY true a b c d e f g h)], .int .i64 (fxCode a b c d e f g h)]) ?_ rfl ⟨rfl, ?_⟩); rotate_left; (focus (have hx := hW6; first | (go_grown; done) | (repeat (first | exact hx | exact Below.refl _ _ | refine Below.drew ?_ | refine below_drewN ?_ _ | refine Below.alloc ?_ (by (try simp only [World.size_alloc, World.size_drew, size_drewN, World.size_setCell]); omega) _ | refine Below.setCell ?_ (by (try dsimp only); omega) _); done) | exact below_drewN (by go_grown) _)); (focus (rw [HV.out.1, HV.out.2.1, HV.out.2.2.1, HV.out.2.2.2.1, HV.out.2.2.2.2]; simp [results, Try.results61, go_sem, f92, f93, f94, f95, f96, f97, f98, f99, f100, f101, f102, f103, f104, f105, z102, z103, z104, z105, l106, Nat.ne_of_lt l106, l107, Nat.ne_of_lt l107, l108, Nat.ne_of_lt l108, l109, Nat.ne_of_lt l109, l110, Nat.ne_of_lt l110, l111, Nat.ne_of_lt l111, l112, Nat.ne_of_lt l112])))
      · by_cases t2 : sgn (fxT a b e f c d) * sgn (cross c d g h) < 0
        · have hc := fx_far HK.out hD (.inr t2)
          have hne : fxCode a b c d e f g h ≠ 0 := by rw [hc]; decide
          have HV : Hid (fxR ratX false a b c d e f g h = 0 ∧ fxR ratY false a b c d e f g h = 0 ∧ fxR ratX true a b c d e f g h = 0 ∧ fxR ratY true a b c d e f g h = 0 ∧ fxCode a b c d e f g h = 4) := by show _ ∧ _ ∧ _ ∧ _ ∧ _; exact ⟨fxR_none hne, fxR_none hne, fxR_none hne, fxR_none hne, hc⟩
          clear hc hne
          clear HK
          go_wp2_with fail
          refine (iSign_any _ _).mono ?_
          rintro en wz ⟨rfl, rfl⟩
          go_wp2_with fail
          refine (iSign_any _ _).mono ?_
          rintro en wz ⟨rfl, rfl⟩
          go_wp2_with fail
          refine (iCross_any _ _ _ _ _).mono ?_
          rintro en w7 ⟨rfl, hb7⟩
          have hB7 : Below w6.heap.size w6 w7 := by first | exact hb7 | exact Below.trans (by repeat (first | exact Below.refl _ _ | refine Below.drew ?_ | refine below_drewN ?_ _ | refine Below.alloc ?_ (by (try simp only [World.size_alloc, World.size_drew, size_drewN, World.size_setCell]); omega) _ | refine Below.setCell ?_ (by (try dsimp only); omega) _)) (hb7.mono (by (try simp only [World.size_alloc, World.size_drew, size_drewN, World.size_setCell]); omega))
          have f113 := later hB7 f92
          have f114 := later hB7 f93
          have f115 := later hB7 f94
          have f116 := later hB7 f95
          have f117 := later hB7 f96
          have f118 := later hB7 f97
          have f119 := later hB7 f98
          have f120 := later hB7 f99
          have f121 := later hB7 f100
          have f122 := later hB7 f101
          have f123 := later hB7 f102
          have z123 := laterF hB7 f102 z102
          have f124 := later hB7 f103
          have z124 := laterF hB7 f103 z103
          have f125 := later hB7 f104
          have z125 := laterF hB7 f104 z104
          have f126 := later hB7 f105
          have z126 := laterF hB7 f105 z105
          have l127 : br < w7.heap.size := World.block_lt_of_cell? _ _ f113
          have l128 : w.heap.size < w7.heap.size := World.block_lt_of_cell? _ _ f115
          have l129 : w.heap.size + 1 < w7.heap.size := World.block_lt_of_cell? _ _ f117
          have l130 : w.heap.size + 2 < w7.heap.size := World.block_lt_of_cell? _ _ f119
          have l131 : w.heap.size + 3 < w7.heap.size := World.block_lt_of_cell? _ _ f121
          have l132 : w.heap.size + 4 < w7.heap.size := World.block_lt_of_cell? _ _ f123
          have l133 : w.heap.size + 5 < w7.heap.size := World.block_lt_of_cell? _ _ f125
          have hW7 := bseq hB1 (bseq hB2 (bseq hB3 (bseq hB4 (bseq hB5 (bseq hB6 (hB7))))))
          have hZ7 := hW7.size
          rw [fxT_def a b e f c d]
          go_wp2_with fail
          refine (iSign_any _ _).mono ?_
          rintro en wz ⟨rfl, rfl⟩
          go_wp2_with fail
          refine (iSign_any _ _).mono ?_
          rintro en wz ⟨rfl, rfl⟩
          go_wp2_with ((with_reducible refine bodyPost_ret (v := .tuple #[.agg #[.int .i64 (fxR ratX false a b c d e f g h), .int .i64 (fxR ratY false a b c d e f g h)], .agg #[.int .i64 (fxR ratX true a b c d e f g h), .int .i64 (fxR ratY true a b c d e f g h)], .int .i64 (fxCode a b c d e f g h)]) ?_ rfl ⟨rfl, ?_⟩); rotate_left; (focus (have hx := hW7; first | (go_grown; done) | (repeat (first | exact hx | exact Below.refl _ _ | refine Below.drew ?_ | refine below_drewN ?_ _ | refine Below.alloc ?_ (by (try simp only [World.size_alloc, World.size_drew, size_drewN, World.size_setCell]); omega) _ | refine Below.setCell ?_ (by (try dsimp only); omega) _); done) | exact below_drewN (by go_grown) _)); (focus (rw [HV.out.1, HV.out.2.1, HV.out.2.2.1, HV.out.2.2.2.1, HV.out.2.2.2.2]; simp [results, Try.results61, go_sem, f113, f114, f115, f116, f117, f118, f119, f120, f121, f122, f123, f124, f125, f126, z123, z124, z125, z126, l127, Nat.ne_of_lt l127, l128, Nat.ne_of_lt l128, l129, Nat.ne_of_lt l129, l130, Nat.ne_of_lt l130, l131, Nat.ne_of_lt l131, l132, Nat.ne_of_lt l132, l133, Nat.ne_of_lt l133])))
        · have hc := fx_near HK.out hD t1 t2
          have HC := Lib.hid hc; clear hc
          go_wp2_with fail
          refine (iSign_any _ _).mono ?_
          rintro en wz ⟨rfl, rfl⟩
          go_wp2_with fail
          refine (iSign_any _ _).mono ?_
          rintro en wz ⟨rfl, rfl⟩
          go_wp2_with fail
          refine (iCross_any _ _ _ _ _).mono ?_
          rintro en w7 ⟨rfl, hb7⟩
          have hB7 : Below w6.heap.size w6 w7 := by first | exact hb7 | exact Below.trans (by repeat (first | exact Below.refl _ _ | refine Below.drew ?_ | refine below_drewN ?_ _ | refine Below.alloc ?_ (by (try simp only [World.size_alloc, World.size_drew, size_drewN, World.size_setCell]); omega) _ | refine Below.setCell ?_ (by (try dsimp only); omega) _)) (hb7.mono (by (try simp only [World.size_alloc, World.size_drew, size_drewN, World.size_setCell]); omega))
          have f113 := later hB7 f92
          have f114 := later hB7 f93
          have f115 := later hB7 f94
          have f116 := later hB7 f95
          have f117 := later hB7 f96
          have f118 := later hB7 f97
          have f119 := later hB7 f98
          have f120 := later hB7 f99
          have f121 := later hB7 f100
          have f122 := later hB7 f101
          have f123 := later hB7 f102
          have z123 := laterF hB7 f102 z102
          have f124 := later hB7 f103
          have z124 := laterF hB7 f103 z103
          have f125 := later hB7 f104
          have z125 := laterF hB7 f104 z104
          have f126 := later hB7 f105
          have z126 := laterF hB7 f105 z105
          have l127 : br < w7.heap.size := World.block_lt_of_cell? _ _ f113
          have l128 : w.heap.size < w7.heap.size := World.block_lt_of_cell? _ _ f115
          have l129 : w.heap.size + 1 < w7.heap.size := World.block_lt_of_cell? _ _ f117
          have l130 : w.heap.size + 2 < w7.heap.size := World.block_lt_of_cell? _ _ f119
          have l131 : w.heap.size + 3 < w7.heap.size := World.block_lt_of_cell? _ _ f121
          have l132 : w.heap.size + 4 < w7.heap.size := World.block_lt_of_cell? _ _ f123
          have l133 : w.heap.size + 5 < w7.heap.size := World.block_lt_of_cell? _ _ f125
          have hW7 := bseq hB1 (bseq hB2 (bseq hB3 (bseq hB4 (bseq hB5 (bseq hB6 (hB7))))))
          have hZ7 := hW7.size
          rw [fxT_def a b e f c d]
          go_wp2_with fail
          refine (iSign_any _ _).mono ?_
          rintro en wz ⟨rfl, rfl⟩
          go_wp2_with fail
          refine (iSign_any _ _).mono ?_
          rintro en wz ⟨rfl, rfl⟩
          go_wp2_with fail
          refine (iRatioP_any _ _ _ (by omega) (by omega) (by omega)).mono ?_
          rintro en w8 ⟨x1, y1, c1, rfl, HR1, hb8⟩
          have hB8 : Below w7.heap.size w7 w8 := by first | exact hb8 | exact Below.trans (by repeat (first | exact Below.refl _ _ | refine Below.drew ?_ | refine below_drewN ?_ _ | refine Below.alloc ?_ (by (try simp only [World.size_alloc, World.size_drew, size_drewN, World.size_setCell]); omega) _ | refine Below.setCell ?_ (by (try dsimp only); omega) _)) (hb8.mono (by (try simp only [World.size_alloc, World.size_drew, size_drewN, World.size_setCell]); omega))
          have f134 := later hB8 f113
          have f135 := later hB8 f114
          have f136 := later hB8 f115
          have f137 := later hB8 f116
          have f138 := later hB8 f117
          have f139 := later hB8 f118
          have f140 := later hB8 f119
          have f141 := later hB8 f120
          have f142 := later hB8 f121
          have f143 := later hB8 f122
          have f144 := later hB8 f123
          have z144 := laterF hB8 f123 z123
          have f145 := later hB8 f124
          have z145 := laterF hB8 f124 z124
          have f146 := later hB8 f125
          have z146 := laterF hB8 f125 z125
          have f147 := later hB8 f126
          have z147 := laterF hB8 f126 z126
          have l148 : br < w8.heap.size := World.block_lt_of_cell? _ _ f134
          have l149 : w.heap.size < w8.heap.size := World.block_lt_of_cell? _ _ f136
          have l150 : w.heap.size + 1 < w8.heap.size := World.block_lt_of_cell? _ _ f138
          have l151 : w.heap.size + 2 < w8.heap.size := World.block_lt_of_cell? _ _ f140
          have l152 : w.heap.size + 3 < w8.heap.size := World.block_lt_of_cell? _ _ f142
          have l153 : w.heap.size + 4 < w8.heap.size := World.block_lt_of_cell? _ _ f144
          have l154 : w.heap.size + 5 < w8.heap.size := World.block_lt_of_cell? _ _ f146
          have hW8 := bseq hB1 (bseq hB2 (bseq hB3 (bseq hB4 (bseq hB5 (bseq hB6 (bseq hB7 (hB8)))))))
          have hZ8 := hW8.size
          go_wp2_with fail
          refine (iRatioP_any _ _ _ (by omega) (by omega) (by omega)).mono ?_
          rintro en w9 ⟨x2, y2, c2, rfl, HR2, hb9⟩
          have hB9 : Below w8.heap.size w8 w9 := by first | exact hb9 | exact Below.trans (by repeat (first | exact Below.refl _ _ | refine Below.drew ?_ | refine below_drewN ?_ _ | refine Below.alloc ?_ (by (try simp only [World.size_alloc, World.size_drew, size_drewN, World.size_setCell]); omega) _ | refine Below.setCell ?_ (by (try dsimp only); omega) _)) (hb9.mono (by (try simp only [World.size_alloc, World.size_drew, size_drewN, World.size_setCell]); omega))
          have f155 := later hB9 f134
          have f156 := later hB9 f135
          have f157 := later hB9 f136
          have f158 := later hB9 f137
          have f159 := later hB9 f138
          have f160 := later hB9 f139
          have f161 := later hB9 f140
          have f162 := later hB9 f141
          have f163 := later hB9 f142
          have f164 := later hB9 f143
          have f165 := later hB9 f144
          have z165 := laterF hB9 f144 z144
          have f166 := later hB9 f145
          have z166 := laterF hB9 f145 z145
          have f167 := later hB9 f146
          have z167 := laterF hB9 f146 z146
          have f168 := later hB9 f147
          have z168 := laterF hB9 f147 z147
          have f169 : w9.cell? ⟨w8.heap.size, 0, none⟩ = some (.int .i64 x1) := (hb9.cell (p := ⟨w8.heap.size, 0, none⟩) (by first | (go_size; done) | (simp; done) | (simp <;> omega))).trans (by go_simp)
          have f170 : w9.cell? ⟨w8.heap.size, 1, none⟩ = some (.int .i64 y1) := (hb9.cell (p := ⟨w8.heap.size, 1, none⟩) (by first | (go_size; done) | (simp; done) | (simp <;> omega))).trans (by go_simp)
          have l171 : br < w9.heap.size := World.block_lt_of_cell? _ _ f155
          have l172 : w.heap.size < w9.heap.size := World.block_lt_of_cell? _ _ f157
          have l173 : w.heap.size + 1 < w9.heap.size := World.block_lt_of_cell? _ _ f159
          have l174 : w.heap.size + 2 < w9.heap.size := World.block_lt_of_cell? _ _ f161
          have l175 : w.heap.size + 3 < w9.heap.size := World.block_lt_of_cell? _ _ f163
          have l176 : w.heap.size + 4 < w9.heap.size := World.block_lt_of_cell? _ _ f165
          have l177 : w.heap.size + 5 < w9.heap.size := World.block_lt_of_cell? _ _ f167
          have l178 : w8.heap.size < w9.heap.size := World.block_lt_of_cell? _ _ f169
          have hW9 := bseq hB1 (bseq hB2 (bseq hB3 (bseq hB4 (bseq hB5 (bseq hB6 (bseq hB7 (bseq hB8 (hB9))))))))
          have hZ9 := hW9.size
          go_upto_region 11 with fail
          have hB10 : Below w9.heap.size w9 (w9.alloc (Obj.cells #[Value.int .i64 x2, Value.int .i64 y2] 73)) := by repeat (first | exact Below.refl _ _ | refine Below.drew ?_ | refine below_drewN ?_ _ | refine Below.alloc ?_ (by (try simp only [World.size_alloc, World.size_drew, size_drewN, World.size_setCell]); omega) _ | refine Below.setCell ?_ (by (try dsimp only); omega) _)
          have f179 := later hB10 f155
          have f180 := later hB10 f156
          have f181 := later hB10 f157
          have f182 := later hB10 f158
          have f183 := later hB10 f159
          have f184 := later hB10 f160
          have f185 := later hB10 f161
          have f186 := later hB10 f162
          have f187 := later hB10 f163
          have f188 := later hB10 f164
          have f189 := later hB10 f165
          have z189 := laterF hB10 f165 z165
          have f190 := later hB10 f166
          have z190 := laterF hB10 f166 z166
          have f191 := later hB10 f167
          have z191 := laterF hB10 f167 z167
          have f192 := later hB10 f168
          have z192 := laterF hB10 f168 z168
          have f193 := later hB10 f169
          have f194 := later hB10 f170
          have f195 : (w9.alloc (Obj.cells #[Value.int .i64 x2, Value.int .i64 y2] 73)).cell? ⟨w9.heap.size, 0, none⟩ = some (.int .i64 x2) := by go_simp
          have f196 : (w9.alloc (Obj.cells #[Value.int .i64 x2, Value.int .i64 y2] 73)).cell? ⟨w9.heap.size, 1, none⟩ = some (.int .i64 y2) := by go_simp
          generalize (w9.alloc (Obj.cells #[Value.int .i64 x2, Value.int .i64 y2] 73)) = w10 at hB10 f179 f180 f181 f182 f183 f184 f185 f186 f187 f188 f189 z189 f190 z190 f191 z191 f192 z192 f193 f194 f195 f196 ⊢
          have l197 : br < w10.heap.size := World.block_lt_of_cell? _ _ f179
          have l198 : w.heap.size < w10.heap.size := World.block_lt_of_cell? _ _ f181
          have l199 : w.heap.size + 1 < w10.heap.size := World.block_lt_of_cell? _ _ f183
          have l200 : w.heap.size + 2 < w10.heap.size := World.block_lt_of_cell? _ _ f185
          have l201 : w.heap.size + 3 < w10.heap.size := World.block_lt_of_cell? _ _ f187
          have l202 : w.heap.size + 4 < w10.heap.size := World.block_lt_of_cell? _ _ f189
          have l203 : w.heap.size + 5 < w10.heap.size := World.block_lt_of_cell? _ _ f191
          have l204 : w8.heap.size < w10.heap.size := World.block_lt_of_cell? _ _ f193
          have l205 : w9.heap.size < w10.heap.size := World.block_lt_of_cell? _ _ f195
          have hW10 := bseq hB1 (bseq hB2 (bseq hB3 (bseq hB4 (bseq hB5 (bseq hB6 (bseq hB7 (bseq hB8 (bseq hB9 (hB10)))))))))
          have hZ10 := hW10.size
          have hc := HC.out; clear HC
          have l1 := ratC_03 (fxN a (cross c d g h) (fxT a b e f g h) c) (cross c d g h)
          have l2 := ratC_03 (fxN b (cross c d g h) (fxT a b e f g h) d) (cross c d g h)
          clear HK
          rcases l1 with l1 | l1
          · obtain rfl : c1 = 0 := HR1.out.2.2.trans l1
            rcases l2 with l2 | l2
            · obtain rfl : c2 = 0 := HR2.out.2.2.trans l2
              have hl : fxLim a b c d (cross c d g h) (fxT a b e f g h) = false := by unfold fxLim; rw [l1, l2]; rfl
              rw [hl, if_neg (by decide)] at hc
              have HV : Hid (fxR ratX false a b c d e f g h = x1 ∧ fxR ratY false a b c d e f g h = y1 ∧ fxR ratX true a b c d e f g h = x2 ∧ fxR ratY true a b c d e f g h = y2 ∧ fxCode a b c d e f g h = 0) := by show _ ∧ _ ∧ _ ∧ _ ∧ _; exact ⟨(fxR_some hc).trans HR1.out.1.symm, (fxR_some hc).trans HR1.out.2.1.symm, (fxR_some hc).trans HR2.out.1.symm, (fxR_some hc).trans HR2.out.2.1.symm, hc⟩
              clear hc hl l1 l2
              go_upto_region 13 with fail
              have HTS : Hid (∀ X : World, Below w10.heap.size w10 X → X.cell? ⟨w8.heap.size, 0, none⟩ = some (.int .i64 x1) ∧ X.cell? ⟨w8.heap.size, 1, none⟩ = some (.int .i64 y1) ∧ X.cell? ⟨w9.heap.size, 0, none⟩ = some (.int .i64 x2) ∧ X.cell? ⟨w9.heap.size, 1, none⟩ = some (.int .i64 y2)) := fun X hB => ⟨later hB f193, later hB f194, later hB f195, later hB f196⟩
              have HB0 : Hid (Below w10.heap.size w10 w10) := Below.refl _ _
              (try have n206 : ¬ w.heap.size + 4 = w8.heap.size := (by omega))
              (try have n207 : ¬ w.heap.size + 4 = w9.heap.size := (by omega))
              (try have n208 : ¬ w.heap.size + 5 = w8.heap.size := (by omega))
              (try have n209 : ¬ w.heap.size + 5 = w9.heap.size := (by omega))
              (try have n210 : ¬ w8.heap.size = w.heap.size + 4 := (by omega))
              (try have n211 : ¬ w8.heap.size = w.heap.size + 5 := (by omega))
              (try have n212 : ¬ w9.heap.size = w.heap.size + 4 := (by omega))
              (try have n213 : ¬ w9.heap.size = w.heap.size + 5 := (by omega))
              go_region_held3 (fun wz9 => wz9.cell? ⟨w8.heap.size, 0, none⟩ = some (.int .i64 x1) ∧ wz9.cell? ⟨w8.heap.size, 1, none⟩ = some (.int .i64 y1) ∧ wz9.cell? ⟨w9.heap.size, 0, none⟩ = some (.int .i64 x2) ∧ wz9.cell? ⟨w9.heap.size, 1, none⟩ = some (.int .i64 y2)) (first | with_reducible assumption | (focus (refine HTS.out _ ?_; (repeat (first | assumption | exact Below.refl _ _ | refine Below.drew ?_ | refine below_drewN ?_ _ | (refine Below.alloc ?_ ?_ _; rotate_left; ((try simp only [World.size_alloc, World.size_drew, size_drewN, World.size_setCell]); omega)) | (refine Below.setCell ?_ ?_ _; rotate_left; ((try dsimp only); omega)))); done)) | go_keep) (first | fail)
              go_wp2_with ((with_reducible refine bodyPost_ret (v := .tuple #[.agg #[.int .i64 (fxR ratX false a b c d e f g h), .int .i64 (fxR ratY false a b c d e f g h)], .agg #[.int .i64 (fxR ratX true a b c d e f g h), .int .i64 (fxR ratY true a b c d e f g h)], .int .i64 (fxCode a b c d e f g h)]) ?_ rfl ⟨rfl, ?_⟩); rotate_left; (focus (have hx := hW10; first | (go_grown; done) | (repeat (first | exact hx | exact Below.refl _ _ | refine Below.drew ?_ | refine below_drewN ?_ _ | refine Below.alloc ?_ (by (try simp only [World.size_alloc, World.size_drew, size_drewN, World.size_setCell]); omega) _ | refine Below.setCell ?_ (by (try dsimp only); omega) _); done) | exact below_drewN (by go_grown) _)); (focus (rw [HV.out.1, HV.out.2.1, HV.out.2.2.1, HV.out.2.2.2.1, HV.out.2.2.2.2]; simp [results, Try.results61, go_sem, f179, f180, f181, f182, f183, f184, f185, f186, f187, f188, f189, f190, f191, f192, f193, f194, f195, f196, z189, z190, z191, z192, l197, Nat.ne_of_lt l197, l198, Nat.ne_of_lt l198, l199, Nat.ne_of_lt l199, l200, Nat.ne_of_lt l200, l201, Nat.ne_of_lt l201, l202, Nat.ne_of_lt l202, l203, Nat.ne_of_lt l203, l204, Nat.ne_of_lt l204, l205, Nat.ne_of_lt l205])))
            · obtain rfl : c2 = 3 := HR2.out.2.2.trans l2
              have hl : fxLim a b c d (cross c d g h) (fxT a b e f g h) = true := by unfold fxLim; rw [l1, l2]; rfl
              rw [hl, if_pos rfl] at hc
              have hne : fxCode a b c d e f g h ≠ 0 := by rw [hc]; decide
              have HV : Hid (fxR ratX false a b c d e f g h = 0 ∧ fxR ratY false a b c d e f g h = 0 ∧ fxR ratX true a b c d e f g h = 0 ∧ fxR ratY true a b c d e f g h = 0 ∧ fxCode a b c d e f g h = 3) := by show _ ∧ _ ∧ _ ∧ _ ∧ _; exact ⟨fxR_none hne, fxR_none hne, fxR_none hne, fxR_none hne, hc⟩
              clear hc hne
              clear hl l1 l2
              go_wp2_with ((with_reducible refine bodyPost_ret (v := .tuple #[.agg #[.int .i64 (fxR ratX false a b c d e f g h), .int .i64 (fxR ratY false a b c d e f g h)], .agg #[.int .i64 (fxR ratX true a b c d e f g h), .int .i64 (fxR ratY true a b c d e f g h)], .int .i64 (fxCode a b c d e f g h)]) ?_ rfl ⟨rfl, ?_⟩); rotate_left; (focus (have hx := hW10; first | (go_grown; done) | (repeat (first | exact hx | exact Below.refl _ _ | refine Below.drew ?_ | refine below_drewN ?_ _ | refine Below.alloc ?_ (by (try simp only [World.size_alloc, World.size_drew, size_drewN, World.size_setCell]); omega) _ | refine Below.setCell ?_ (by (try dsimp only); omega) _); done) | exact below_drewN (by go_grown) _)); (focus (rw [HV.out.1, HV.out.2.1, HV.out.2.2.1, HV.out.2.2.2.1, HV.out.2.2.2.2]; simp [results, Try.results61, go_sem, f179, f180, f181, f182, f183, f184, f185, f186, f187, f188, f189, f190, f191, f192, f193, f194, f195, f196, z189, z190, z191, z192, l197, Nat.ne_of_lt l197, l198, Nat.ne_of_lt l198, l199, Nat.ne_of_lt l199, l200, Nat.ne_of_lt l200, l201, Nat.ne_of_lt l201, l202, Nat.ne_of_lt l202, l203, Nat.ne_of_lt l203, l204, Nat.ne_of_lt l204, l205, Nat.ne_of_lt l205])))
          · obtain rfl : c1 = 3 := HR1.out.2.2.trans l1
            have hl : fxLim a b c d (cross c d g h) (fxT a b e f g h) = true := by unfold fxLim; rw [l1]; rfl
            rw [hl, if_pos rfl] at hc
            have hne : fxCode a b c d e f g h ≠ 0 := by rw [hc]; decide
            have HV : Hid (fxR ratX false a b c d e f g h = 0 ∧ fxR ratY false a b c d e f g h = 0 ∧ fxR ratX true a b c d e f g h = 0 ∧ fxR ratY true a b c d e f g h = 0 ∧ fxCode a b c d e f g h = 3) := by show _ ∧ _ ∧ _ ∧ _ ∧ _; exact ⟨fxR_none hne, fxR_none hne, fxR_none hne, fxR_none hne, hc⟩
            clear hc hne
            clear hl
            rcases l2 with l2 | l2
            · obtain rfl : c2 = 0 := HR2.out.2.2.trans l2
              clear l1 l2
              go_wp2_with ((with_reducible refine bodyPost_ret (v := .tuple #[.agg #[.int .i64 (fxR ratX false a b c d e f g h), .int .i64 (fxR ratY false a b c d e f g h)], .agg #[.int .i64 (fxR ratX true a b c d e f g h), .int .i64 (fxR ratY true a b c d e f g h)], .int .i64 (fxCode a b c d e f g h)]) ?_ rfl ⟨rfl, ?_⟩); rotate_left; (focus (have hx := hW10; first | (go_grown; done) | (repeat (first | exact hx | exact Below.refl _ _ | refine Below.drew ?_ | refine below_drewN ?_ _ | refine Below.alloc ?_ (by (try simp only [World.size_alloc, World.size_drew, size_drewN, World.size_setCell]); omega) _ | refine Below.setCell ?_ (by (try dsimp only); omega) _); done) | exact below_drewN (by go_grown) _)); (focus (rw [HV.out.1, HV.out.2.1, HV.out.2.2.1, HV.out.2.2.2.1, HV.out.2.2.2.2]; simp [results, Try.results61, go_sem, f179, f180, f181, f182, f183, f184, f185, f186, f187, f188, f189, f190, f191, f192, f193, f194, f195, f196, z189, z190, z191, z192, l197, Nat.ne_of_lt l197, l198, Nat.ne_of_lt l198, l199, Nat.ne_of_lt l199, l200, Nat.ne_of_lt l200, l201, Nat.ne_of_lt l201, l202, Nat.ne_of_lt l202, l203, Nat.ne_of_lt l203, l204, Nat.ne_of_lt l204, l205, Nat.ne_of_lt l205])))
            · obtain rfl : c2 = 3 := HR2.out.2.2.trans l2
              clear l1 l2
              go_wp2_with ((with_reducible refine bodyPost_ret (v := .tuple #[.agg #[.int .i64 (fxR ratX false a b c d e f g h), .int .i64 (fxR ratY false a b c d e f g h)], .agg #[.int .i64 (fxR ratX true a b c d e f g h), .int .i64 (fxR ratY true a b c d e f g h)], .int .i64 (fxCode a b c d e f g h)]) ?_ rfl ⟨rfl, ?_⟩); rotate_left; (focus (have hx := hW10; first | (go_grown; done) | (repeat (first | exact hx | exact Below.refl _ _ | refine Below.drew ?_ | refine below_drewN ?_ _ | refine Below.alloc ?_ (by (try simp only [World.size_alloc, World.size_drew, size_drewN, World.size_setCell]); omega) _ | refine Below.setCell ?_ (by (try dsimp only); omega) _); done) | exact below_drewN (by go_grown) _)); (focus (rw [HV.out.1, HV.out.2.1, HV.out.2.2.1, HV.out.2.2.2.1, HV.out.2.2.2.2]; simp [results, Try.results61, go_sem, f179, f180, f181, f182, f183, f184, f185, f186, f187, f188, f189, f190, f191, f192, f193, f194, f195, f196, z189, z190, z191, z192, l197, Nat.ne_of_lt l197, l198, Nat.ne_of_lt l198, l199, Nat.ne_of_lt l199, l200, Nat.ne_of_lt l200, l201, Nat.ne_of_lt l201, l202, Nat.ne_of_lt l202, l203, Nat.ne_of_lt l203, l204, Nat.ne_of_lt l204, l205, Nat.ne_of_lt l205])))
end Go.Proofs.Ytoccglmlpobeeaa
