/- the law, walked: FnFixes -/
import Derived.Test.YtoccglmlpobeeaaW21
import Derived.Test.YtoccglmlpobeeaaOpenB
import Derived.Deep.DeepCutAuto
set_option linter.unusedVariables false
set_option linter.unusedSimpArgs false
namespace Go.Proofs.Ytoccglmlpobeeaa
open Go.RowKit

set_option maxRecDepth 100000 in
set_option maxHeartbeats 16000000 in
theorem lawFixes_any (A : Option Addr) (n c : Nat) (w : World) (hr : RdB w A n) :
    Calls Try.prog 20 #[.slice A n c] w fun en w9 => en = .returned (.bool true) ∧ Below w.heap.size w w9 := by
  by_cases hm : 4096 < (n : Int)
  · have hbig : decide (4096 < (n : Int)) = true := decide_eq_true hm
    go_enter Try.func20, Try.ntmps20
    go_wp2_with fail
    refine (big_any _ _ _ _).mono ?_
    rintro en wz ⟨rfl, rfl⟩
    rw [hbig]
    go_wp2
    go_ret
    exact ⟨rfl, Below.refl _ _⟩
  · have hbig : decide (4096 < (n : Int)) = false := decide_eq_false hm
    have hm2 : n ≤ 4096 := by omega
    go_enter Try.func20, Try.ntmps20
    go_wp2_with fail
    refine (big_any _ _ _ _).mono ?_
    rintro en wz ⟨rfl, rfl⟩
    rw [hbig]
    clear hbig hm
    go_wp2_with fail
    refine (dFix_any A n c _ hr hm2).mono ?_
    rintro en w1 ⟨x1, y1, x2, y2, x3, y3, x4, y4, rfl, hb1⟩
    have hB1 : Below w.heap.size w w1 := by first | exact hb1 | exact Below.trans (by repeat (first | exact Below.refl _ _ | refine Below.drew ?_ | refine below_drewN ?_ _ | refine Below.alloc ?_ (by (try simp only [World.size_alloc, World.size_drew, size_drewN, World.size_setCell]); omega) _ | refine Below.setCell ?_ (by (try dsimp only); omega) _)) (hb1.mono (by (try simp only [World.size_alloc, World.size_drew, size_drewN, World.size_setCell]); omega))
    have hZ1 := hB1.size
    obtain ⟨X, x, Y, y, k, HV⟩ := fx_letters x1 y1 x2 y2 x3 y3 x4 y4
    have HW := fx_letters_swap HV
    go_wp2_with fail
    refine (iFixL_any _ _ _ _ _ _ _ _ X x Y y k _ HV).mono ?_
    rintro en w2 ⟨rfl, hb2⟩
    have hB2 : Below w1.heap.size w1 w2 := by first | exact hb2 | exact Below.trans (by repeat (first | exact Below.refl _ _ | refine Below.drew ?_ | refine below_drewN ?_ _ | refine Below.alloc ?_ (by (try simp only [World.size_alloc, World.size_drew, size_drewN, World.size_setCell]); omega) _ | refine Below.setCell ?_ (by (try dsimp only); omega) _)) (hb2.mono (by (try simp only [World.size_alloc, World.size_drew, size_drewN, World.size_setCell]); omega))
    have f1 : w2.cell? ⟨w1.heap.size, 0, none⟩ = some (.int .i64 x1) := (hb2.cell (p := ⟨w1.heap.size, 0, none⟩) (by first | (go_size; done) | (simp; done) | (simp <;> omega))).trans (by go_simp)
    have f2 : w2.cell? ⟨w1.heap.size, 1, none⟩ = some (.int .i64 y1) := (hb2.cell (p := ⟨w1.heap.size, 1, none⟩) (by first | (go_size; done) | (simp; done) | (simp <;> omega))).trans (by go_simp)
    have f3 : w2.cell? ⟨w1.heap.size + 1, 0, none⟩ = some (.int .i64 x2) := (hb2.cell (p := ⟨w1.heap.size + 1, 0, none⟩) (by first | (go_size; done) | (simp; done) | (simp <;> omega))).trans (by go_simp)
    have f4 : w2.cell? ⟨w1.heap.size + 1, 1, none⟩ = some (.int .i64 y2) := (hb2.cell (p := ⟨w1.heap.size + 1, 1, none⟩) (by first | (go_size; done) | (simp; done) | (simp <;> omega))).trans (by go_simp)
    have f5 : w2.cell? ⟨w1.heap.size + 2, 0, none⟩ = some (.int .i64 x3) := (hb2.cell (p := ⟨w1.heap.size + 2, 0, none⟩) (by first | (go_size; done) | (simp; done) | (simp <;> omega))).trans (by go_simp)
    have f6 : w2.cell? ⟨w1.heap.size + 2, 1, none⟩ = some (.int .i64 y3) := (hb2.cell (p := ⟨w1.heap.size + 2, 1, none⟩) (by first | (go_size; done) | (simp; done) | (simp <;> omega))).trans (by go_simp)
    have f7 : w2.cell? ⟨w1.heap.size + 3, 0, none⟩ = some (.int .i64 x4) := (hb2.cell (p := ⟨w1.heap.size + 3, 0, none⟩) (by first | (go_size; done) | (simp; done) | (simp <;> omega))).trans (by go_simp)
    have f8 : w2.cell? ⟨w1.heap.size + 3, 1, none⟩ = some (.int .i64 y4) := (hb2.cell (p := ⟨w1.heap.size + 3, 1, none⟩) (by first | (go_size; done) | (simp; done) | (simp <;> omega))).trans (by go_simp)
    have l9 : w1.heap.size < w2.heap.size := World.block_lt_of_cell? _ _ f1
    have l10 : w1.heap.size + 1 < w2.heap.size := World.block_lt_of_cell? _ _ f3
    have l11 : w1.heap.size + 2 < w2.heap.size := World.block_lt_of_cell? _ _ f5
    have l12 : w1.heap.size + 3 < w2.heap.size := World.block_lt_of_cell? _ _ f7
    have hW2 := bseq hB1 (hB2)
    have hZ2 := hW2.size
    go_wp2_with fail
    refine (sFixL_any _ _ _ _ _ _ _ _ X x Y y k _ HV).mono ?_
    rintro en w3 ⟨rfl, hb3⟩
    have hB3 : Below w2.heap.size w2 w3 := by first | exact hb3 | exact Below.trans (by repeat (first | exact Below.refl _ _ | refine Below.drew ?_ | refine below_drewN ?_ _ | refine Below.alloc ?_ (by (try simp only [World.size_alloc, World.size_drew, size_drewN, World.size_setCell]); omega) _ | refine Below.setCell ?_ (by (try dsimp only); omega) _)) (hb3.mono (by (try simp only [World.size_alloc, World.size_drew, size_drewN, World.size_setCell]); omega))
    have f13 := later hB3 f1
    have f14 := later hB3 f2
    have f15 := later hB3 f3
    have f16 := later hB3 f4
    have f17 := later hB3 f5
    have f18 := later hB3 f6
    have f19 := later hB3 f7
    have f20 := later hB3 f8
    have f21 : w3.cell? ⟨w2.heap.size, 0, none⟩ = some (.int .i64 X) := (hb3.cell (p := ⟨w2.heap.size, 0, none⟩) (by first | (go_size; done) | (simp; done) | (simp <;> omega))).trans (by go_simp)
    have f22 : w3.cell? ⟨w2.heap.size, 1, none⟩ = some (.int .i64 x) := (hb3.cell (p := ⟨w2.heap.size, 1, none⟩) (by first | (go_size; done) | (simp; done) | (simp <;> omega))).trans (by go_simp)
    have f23 : w3.cell? ⟨w2.heap.size + 1, 0, none⟩ = some (.int .i64 Y) := (hb3.cell (p := ⟨w2.heap.size + 1, 0, none⟩) (by first | (go_size; done) | (simp; done) | (simp <;> omega))).trans (by go_simp)
    have f24 : w3.cell? ⟨w2.heap.size + 1, 1, none⟩ = some (.int .i64 y) := (hb3.cell (p := ⟨w2.heap.size + 1, 1, none⟩) (by first | (go_size; done) | (simp; done) | (simp <;> omega))).trans (by go_simp)
    have l25 : w1.heap.size < w3.heap.size := World.block_lt_of_cell? _ _ f13
    have l26 : w1.heap.size + 1 < w3.heap.size := World.block_lt_of_cell? _ _ f15
    have l27 : w1.heap.size + 2 < w3.heap.size := World.block_lt_of_cell? _ _ f17
    have l28 : w1.heap.size + 3 < w3.heap.size := World.block_lt_of_cell? _ _ f19
    have l29 : w2.heap.size < w3.heap.size := World.block_lt_of_cell? _ _ f21
    have l30 : w2.heap.size + 1 < w3.heap.size := World.block_lt_of_cell? _ _ f23
    have hW3 := bseq hB1 (bseq hB2 (hB3))
    have hZ3 := hW3.size
    go_wp2_with fail
    refine (iFixL_any _ _ _ _ _ _ _ _ X x Y y k _ HW).mono ?_
    rintro en w4 ⟨rfl, hb4⟩
    have hB4 : Below w3.heap.size w3 w4 := by first | exact hb4 | exact Below.trans (by repeat (first | exact Below.refl _ _ | refine Below.drew ?_ | refine below_drewN ?_ _ | refine Below.alloc ?_ (by (try simp only [World.size_alloc, World.size_drew, size_drewN, World.size_setCell]); omega) _ | refine Below.setCell ?_ (by (try dsimp only); omega) _)) (hb4.mono (by (try simp only [World.size_alloc, World.size_drew, size_drewN, World.size_setCell]); omega))
    have f31 := later hB4 f13
    have f32 := later hB4 f14
    have f33 := later hB4 f15
    have f34 := later hB4 f16
    have f35 := later hB4 f17
    have f36 := later hB4 f18
    have f37 := later hB4 f19
    have f38 := later hB4 f20
    have f39 := later hB4 f21
    have f40 := later hB4 f22
    have f41 := later hB4 f23
    have f42 := later hB4 f24
    have f43 : w4.cell? ⟨w3.heap.size, 0, none⟩ = some (.int .i64 X) := (hb4.cell (p := ⟨w3.heap.size, 0, none⟩) (by first | (go_size; done) | (simp; done) | (simp <;> omega))).trans (by go_simp)
    have f44 : w4.cell? ⟨w3.heap.size, 1, none⟩ = some (.int .i64 x) := (hb4.cell (p := ⟨w3.heap.size, 1, none⟩) (by first | (go_size; done) | (simp; done) | (simp <;> omega))).trans (by go_simp)
    have f45 : w4.cell? ⟨w3.heap.size + 1, 0, none⟩ = some (.int .i64 Y) := (hb4.cell (p := ⟨w3.heap.size + 1, 0, none⟩) (by first | (go_size; done) | (simp; done) | (simp <;> omega))).trans (by go_simp)
    have f46 : w4.cell? ⟨w3.heap.size + 1, 1, none⟩ = some (.int .i64 y) := (hb4.cell (p := ⟨w3.heap.size + 1, 1, none⟩) (by first | (go_size; done) | (simp; done) | (simp <;> omega))).trans (by go_simp)
    have l47 : w1.heap.size < w4.heap.size := World.block_lt_of_cell? _ _ f31
    have l48 : w1.heap.size + 1 < w4.heap.size := World.block_lt_of_cell? _ _ f33
    have l49 : w1.heap.size + 2 < w4.heap.size := World.block_lt_of_cell? _ _ f35
    have l50 : w1.heap.size + 3 < w4.heap.size := World.block_lt_of_cell? _ _ f37
    have l51 : w2.heap.size < w4.heap.size := World.block_lt_of_cell? _ _ f39
    have l52 : w2.heap.size + 1 < w4.heap.size := World.block_lt_of_cell? _ _ f41
    have l53 : w3.heap.size < w4.heap.size := World.block_lt_of_cell? _ _ f43
    have l54 : w3.heap.size + 1 < w4.heap.size := World.block_lt_of_cell? _ _ f45
    have hW4 := bseq hB1 (bseq hB2 (bseq hB3 (hB4)))
    have hZ4 := hW4.size
    by_cases hk : k = 0
    · have hk0 : (k != 0) = false := by simpa using hk
      obtain ⟨l1, l2⟩ := fx_lines' HV hk
      clear hk HV HW
      go_wp2_with (go_ret; exact ⟨rfl, (by first | exact hW4 | (have hx := hW4; go_grown))⟩)
    · have hk0 : (k != 0) = true := by simpa using hk
      clear hk HV HW
      go_wp2_with (go_ret; exact ⟨rfl, (by first | exact hW4 | (have hx := hW4; go_grown))⟩)
end Go.Proofs.Ytoccglmlpobeeaa
