/- the law, walked: FnTracks -/
import Derived.Test.YtoccglmlpobeeaaDrW6
import Derived.Test.YtoccglmlpobeeaaPlainT
import Derived.Test.YtoccglmlpobeeaaW6
import Derived.Test.YtoccglmlpobeeaaW7
import Derived.Test.YtoccglmlpobeeaaW11
import Derived.Deep.DeepCutAuto
set_option linter.unusedVariables false
set_option linter.unusedSimpArgs false
namespace Go.Proofs.Ytoccglmlpobeeaa
open Go.RowKit

set_option maxHeartbeats 16000000 in
theorem lawTracks_any (A : Option Addr) (n c : Nat) (w : World) (hr : RdB w A n) :
    Calls Try.prog 19 #[.slice A n c] w fun en w9 => en = .returned (.bool true) ∧ Below w.heap.size w w9 := by
  by_cases hm : 4096 < (n : Int)
  · have hbig : decide (4096 < (n : Int)) = true := decide_eq_true hm
    go_enter Try.func19, Try.ntmps19
    go_wp2_with fail
    refine (big_any _ _ _ _).mono ?_
    rintro en wz ⟨rfl, rfl⟩
    rw [hbig]
    go_wp2
    go_ret
    exact ⟨rfl, Below.refl _ _⟩
  · have hbig : decide (4096 < (n : Int)) = false := decide_eq_false hm
    have hm2 : n ≤ 4096 := by omega
    go_enter Try.func19, Try.ntmps19
    go_wp2_with fail
    refine (big_any _ _ _ _).mono ?_
    rintro en wz ⟨rfl, rfl⟩
    rw [hbig]
    clear hbig hm
    go_wp2_with fail
    refine (dPos_any A n c _ hr hm2).mono ?_
    rintro en w1 ⟨p1, q1, r1, t1, x, rfl, hb1⟩
    have hB1 : Below w.heap.size w w1 := by first | exact hb1 | exact Below.trans (by repeat (first | exact Below.refl _ _ | refine Below.drew ?_ | refine below_drewN ?_ _ | refine Below.alloc ?_ (by (try simp only [World.size_alloc, World.size_drew, size_drewN, World.size_setCell]); omega) _ | refine Below.setCell ?_ (by (try dsimp only); omega) _)) (hb1.mono (by (try simp only [World.size_alloc, World.size_drew, size_drewN, World.size_setCell]); omega))
    have hZ1 := hB1.size
    go_wp2_with fail
    refine (iPos_any _ _ _ _ _ _).mono ?_
    rintro en w2 ⟨rfl, hb2⟩
    have hB2 : Below w1.heap.size w1 w2 := by first | exact hb2 | exact Below.trans (by repeat (first | exact Below.refl _ _ | refine Below.drew ?_ | refine below_drewN ?_ _ | refine Below.alloc ?_ (by (try simp only [World.size_alloc, World.size_drew, size_drewN, World.size_setCell]); omega) _ | refine Below.setCell ?_ (by (try dsimp only); omega) _)) (hb2.mono (by (try simp only [World.size_alloc, World.size_drew, size_drewN, World.size_setCell]); omega))
    have f1 : w2.cell? ⟨w1.heap.size, 0, none⟩ = some (.int .i64 p1) := (hb2.cell (p := ⟨w1.heap.size, 0, none⟩) (by first | (go_size; done) | (simp; done) | (simp <;> omega))).trans (by go_simp)
    have f2 : w2.cell? ⟨w1.heap.size, 1, none⟩ = some (.int .i64 q1) := (hb2.cell (p := ⟨w1.heap.size, 1, none⟩) (by first | (go_size; done) | (simp; done) | (simp <;> omega))).trans (by go_simp)
    have f3 : w2.cell? ⟨w1.heap.size, 2, none⟩ = some (.int .i64 r1) := (hb2.cell (p := ⟨w1.heap.size, 2, none⟩) (by first | (go_size; done) | (simp; done) | (simp <;> omega))).trans (by go_simp)
    have f4 : w2.cell? ⟨w1.heap.size, 3, none⟩ = some (.int .i64 t1) := (hb2.cell (p := ⟨w1.heap.size, 3, none⟩) (by first | (go_size; done) | (simp; done) | (simp <;> omega))).trans (by go_simp)
    have l5 : w1.heap.size < w2.heap.size := World.block_lt_of_cell? _ _ f1
    have hW2 := bseq hB1 (hB2)
    have hZ2 := hW2.size
    go_wp2_with fail
    refine (sPos_any _ _ _ _ _ _).mono ?_
    rintro en w3 ⟨rfl, hb3⟩
    have hB3 : Below w2.heap.size w2 w3 := by first | exact hb3 | exact Below.trans (by repeat (first | exact Below.refl _ _ | refine Below.drew ?_ | refine below_drewN ?_ _ | refine Below.alloc ?_ (by (try simp only [World.size_alloc, World.size_drew, size_drewN, World.size_setCell]); omega) _ | refine Below.setCell ?_ (by (try dsimp only); omega) _)) (hb3.mono (by (try simp only [World.size_alloc, World.size_drew, size_drewN, World.size_setCell]); omega))
    have f6 := later hB3 f1
    have f7 := later hB3 f2
    have f8 := later hB3 f3
    have f9 := later hB3 f4
    have f10 : w3.cell? ⟨w2.heap.size, 0, none⟩ = some (.int .i64 (posX p1 q1 r1 t1 x)) := (hb3.cell (p := ⟨w2.heap.size, 0, none⟩) (by first | (go_size; done) | (simp; done) | (simp <;> omega))).trans (by go_simp)
    have f11 : w3.cell? ⟨w2.heap.size, 1, none⟩ = some (.int .i64 (posY p1 q1 r1 t1 x)) := (hb3.cell (p := ⟨w2.heap.size, 1, none⟩) (by first | (go_size; done) | (simp; done) | (simp <;> omega))).trans (by go_simp)
    have l12 : w1.heap.size < w3.heap.size := World.block_lt_of_cell? _ _ f6
    have l13 : w2.heap.size < w3.heap.size := World.block_lt_of_cell? _ _ f10
    have hW3 := bseq hB1 (bseq hB2 (hB3))
    have hZ3 := hW3.size
    go_wp2_with fail
    refine (dDrift_any A n c _ (RdB.below hr (Below.alloc hW3 hZ3 _)) hm2).mono ?_
    rintro en w4 ⟨p2, q2, r2, t2, p3, q3, r3, t3, k, rfl, hb4⟩
    have hB4 : Below w3.heap.size w3 w4 := by first | exact hb4 | exact Below.trans (by repeat (first | exact Below.refl _ _ | refine Below.drew ?_ | refine below_drewN ?_ _ | refine Below.alloc ?_ (by (try simp only [World.size_alloc, World.size_drew, size_drewN, World.size_setCell]); omega) _ | refine Below.setCell ?_ (by (try dsimp only); omega) _)) (hb4.mono (by (try simp only [World.size_alloc, World.size_drew, size_drewN, World.size_setCell]); omega))
    have f14 := later hB4 f6
    have f15 := later hB4 f7
    have f16 := later hB4 f8
    have f17 := later hB4 f9
    have f18 := later hB4 f10
    have f19 := later hB4 f11
    have f20 : w4.cell? ⟨w3.heap.size, 0, none⟩ = some (.int .i64 (posX p1 q1 r1 t1 x)) := (hb4.cell (p := ⟨w3.heap.size, 0, none⟩) (by first | (go_size; done) | (simp; done) | (simp <;> omega))).trans (by go_simp)
    have f21 : w4.cell? ⟨w3.heap.size, 1, none⟩ = some (.int .i64 (posY p1 q1 r1 t1 x)) := (hb4.cell (p := ⟨w3.heap.size, 1, none⟩) (by first | (go_size; done) | (simp; done) | (simp <;> omega))).trans (by go_simp)
    have l22 : w1.heap.size < w4.heap.size := World.block_lt_of_cell? _ _ f14
    have l23 : w2.heap.size < w4.heap.size := World.block_lt_of_cell? _ _ f18
    have l24 : w3.heap.size < w4.heap.size := World.block_lt_of_cell? _ _ f20
    have hW4 := bseq hB1 (bseq hB2 (bseq hB3 (hB4)))
    have hZ4 := hW4.size
    go_wp2_with fail
    refine (iDrift_any _ _ _ _ _ _ _ _ _ _).mono ?_
    rintro en w5 ⟨rfl, hb5⟩
    have hB5 : Below w4.heap.size w4 w5 := by first | exact hb5 | exact Below.trans (by repeat (first | exact Below.refl _ _ | refine Below.drew ?_ | refine below_drewN ?_ _ | refine Below.alloc ?_ (by (try simp only [World.size_alloc, World.size_drew, size_drewN, World.size_setCell]); omega) _ | refine Below.setCell ?_ (by (try dsimp only); omega) _)) (hb5.mono (by (try simp only [World.size_alloc, World.size_drew, size_drewN, World.size_setCell]); omega))
    have f25 := later hB5 f14
    have f26 := later hB5 f15
    have f27 := later hB5 f16
    have f28 := later hB5 f17
    have f29 := later hB5 f18
    have f30 := later hB5 f19
    have f31 := later hB5 f20
    have f32 := later hB5 f21
    have f33 : w5.cell? ⟨w4.heap.size, 0, none⟩ = some (.int .i64 p2) := (hb5.cell (p := ⟨w4.heap.size, 0, none⟩) (by first | (go_size; done) | (simp; done) | (simp <;> omega))).trans (by go_simp)
    have f34 : w5.cell? ⟨w4.heap.size, 1, none⟩ = some (.int .i64 q2) := (hb5.cell (p := ⟨w4.heap.size, 1, none⟩) (by first | (go_size; done) | (simp; done) | (simp <;> omega))).trans (by go_simp)
    have f35 : w5.cell? ⟨w4.heap.size, 2, none⟩ = some (.int .i64 r2) := (hb5.cell (p := ⟨w4.heap.size, 2, none⟩) (by first | (go_size; done) | (simp; done) | (simp <;> omega))).trans (by go_simp)
    have f36 : w5.cell? ⟨w4.heap.size, 3, none⟩ = some (.int .i64 t2) := (hb5.cell (p := ⟨w4.heap.size, 3, none⟩) (by first | (go_size; done) | (simp; done) | (simp <;> omega))).trans (by go_simp)
    have f37 : w5.cell? ⟨w4.heap.size + 1, 0, none⟩ = some (.int .i64 p3) := (hb5.cell (p := ⟨w4.heap.size + 1, 0, none⟩) (by first | (go_size; done) | (simp; done) | (simp <;> omega))).trans (by go_simp)
    have f38 : w5.cell? ⟨w4.heap.size + 1, 1, none⟩ = some (.int .i64 q3) := (hb5.cell (p := ⟨w4.heap.size + 1, 1, none⟩) (by first | (go_size; done) | (simp; done) | (simp <;> omega))).trans (by go_simp)
    have f39 : w5.cell? ⟨w4.heap.size + 1, 2, none⟩ = some (.int .i64 r3) := (hb5.cell (p := ⟨w4.heap.size + 1, 2, none⟩) (by first | (go_size; done) | (simp; done) | (simp <;> omega))).trans (by go_simp)
    have f40 : w5.cell? ⟨w4.heap.size + 1, 3, none⟩ = some (.int .i64 t3) := (hb5.cell (p := ⟨w4.heap.size + 1, 3, none⟩) (by first | (go_size; done) | (simp; done) | (simp <;> omega))).trans (by go_simp)
    have l41 : w1.heap.size < w5.heap.size := World.block_lt_of_cell? _ _ f25
    have l42 : w2.heap.size < w5.heap.size := World.block_lt_of_cell? _ _ f29
    have l43 : w3.heap.size < w5.heap.size := World.block_lt_of_cell? _ _ f31
    have l44 : w4.heap.size < w5.heap.size := World.block_lt_of_cell? _ _ f33
    have l45 : w4.heap.size + 1 < w5.heap.size := World.block_lt_of_cell? _ _ f37
    have hW5 := bseq hB1 (bseq hB2 (bseq hB3 (bseq hB4 (hB5))))
    have hZ5 := hW5.size
    go_wp2_with fail
    refine (sDrift_any _ _ _ _ _ _ _ _ _ _).mono ?_
    rintro en w6 ⟨rfl, hb6⟩
    have hB6 : Below w5.heap.size w5 w6 := by first | exact hb6 | exact Below.trans (by repeat (first | exact Below.refl _ _ | refine Below.drew ?_ | refine below_drewN ?_ _ | refine Below.alloc ?_ (by (try simp only [World.size_alloc, World.size_drew, size_drewN, World.size_setCell]); omega) _ | refine Below.setCell ?_ (by (try dsimp only); omega) _)) (hb6.mono (by (try simp only [World.size_alloc, World.size_drew, size_drewN, World.size_setCell]); omega))
    have f46 := later hB6 f25
    have f47 := later hB6 f26
    have f48 := later hB6 f27
    have f49 := later hB6 f28
    have f50 := later hB6 f29
    have f51 := later hB6 f30
    have f52 := later hB6 f31
    have f53 := later hB6 f32
    have f54 := later hB6 f33
    have f55 := later hB6 f34
    have f56 := later hB6 f35
    have f57 := later hB6 f36
    have f58 := later hB6 f37
    have f59 := later hB6 f38
    have f60 := later hB6 f39
    have f61 := later hB6 f40
    have l62 : w1.heap.size < w6.heap.size := World.block_lt_of_cell? _ _ f46
    have l63 : w2.heap.size < w6.heap.size := World.block_lt_of_cell? _ _ f50
    have l64 : w3.heap.size < w6.heap.size := World.block_lt_of_cell? _ _ f52
    have l65 : w4.heap.size < w6.heap.size := World.block_lt_of_cell? _ _ f54
    have l66 : w4.heap.size + 1 < w6.heap.size := World.block_lt_of_cell? _ _ f58
    have hW6 := bseq hB1 (bseq hB2 (bseq hB3 (bseq hB4 (bseq hB5 (hB6)))))
    have hZ6 := hW6.size
    by_cases hk : driftCode p2 q2 r2 t2 p3 q3 r3 t3 k = 0
    · have hk0 : (driftCode p2 q2 r2 t2 p3 q3 r3 t3 k == 0) = true := by simpa using hk
      obtain ⟨d1, d2⟩ := drift_zero hk
      obtain ⟨d3, d4⟩ := drift_swap hk
      clear hk
      go_wp2_with fail
      refine (iDrift_any _ _ _ _ _ _ _ _ _ _).mono ?_
      rintro en w7 ⟨rfl, hb7⟩
      have hB7 : Below w6.heap.size w6 w7 := by first | exact hb7 | exact Below.trans (by repeat (first | exact Below.refl _ _ | refine Below.drew ?_ | refine below_drewN ?_ _ | refine Below.alloc ?_ (by (try simp only [World.size_alloc, World.size_drew, size_drewN, World.size_setCell]); omega) _ | refine Below.setCell ?_ (by (try dsimp only); omega) _)) (hb7.mono (by (try simp only [World.size_alloc, World.size_drew, size_drewN, World.size_setCell]); omega))
      have f67 := later hB7 f46
      have f68 := later hB7 f47
      have f69 := later hB7 f48
      have f70 := later hB7 f49
      have f71 := later hB7 f50
      have f72 := later hB7 f51
      have f73 := later hB7 f52
      have f74 := later hB7 f53
      have f75 := later hB7 f54
      have f76 := later hB7 f55
      have f77 := later hB7 f56
      have f78 := later hB7 f57
      have f79 := later hB7 f58
      have f80 := later hB7 f59
      have f81 := later hB7 f60
      have f82 := later hB7 f61
      have l83 : w1.heap.size < w7.heap.size := World.block_lt_of_cell? _ _ f67
      have l84 : w2.heap.size < w7.heap.size := World.block_lt_of_cell? _ _ f71
      have l85 : w3.heap.size < w7.heap.size := World.block_lt_of_cell? _ _ f73
      have l86 : w4.heap.size < w7.heap.size := World.block_lt_of_cell? _ _ f75
      have l87 : w4.heap.size + 1 < w7.heap.size := World.block_lt_of_cell? _ _ f79
      have hW7 := bseq hB1 (bseq hB2 (bseq hB3 (bseq hB4 (bseq hB5 (bseq hB6 (hB7))))))
      have hZ7 := hW7.size
      rw [d1, d2]
      go_wp2_with fail
      refine (iDrift_any _ _ _ _ _ _ _ _ _ _).mono ?_
      rintro en w8 ⟨rfl, hb8⟩
      have hB8 : Below w7.heap.size w7 w8 := by first | exact hb8 | exact Below.trans (by repeat (first | exact Below.refl _ _ | refine Below.drew ?_ | refine below_drewN ?_ _ | refine Below.alloc ?_ (by (try simp only [World.size_alloc, World.size_drew, size_drewN, World.size_setCell]); omega) _ | refine Below.setCell ?_ (by (try dsimp only); omega) _)) (hb8.mono (by (try simp only [World.size_alloc, World.size_drew, size_drewN, World.size_setCell]); omega))
      have f88 := later hB8 f67
      have f89 := later hB8 f68
      have f90 := later hB8 f69
      have f91 := later hB8 f70
      have f92 := later hB8 f71
      have f93 := later hB8 f72
      have f94 := later hB8 f73
      have f95 := later hB8 f74
      have f96 := later hB8 f75
      have f97 := later hB8 f76
      have f98 := later hB8 f77
      have f99 := later hB8 f78
      have f100 := later hB8 f79
      have f101 := later hB8 f80
      have f102 := later hB8 f81
      have f103 := later hB8 f82
      have l104 : w1.heap.size < w8.heap.size := World.block_lt_of_cell? _ _ f88
      have l105 : w2.heap.size < w8.heap.size := World.block_lt_of_cell? _ _ f92
      have l106 : w3.heap.size < w8.heap.size := World.block_lt_of_cell? _ _ f94
      have l107 : w4.heap.size < w8.heap.size := World.block_lt_of_cell? _ _ f96
      have l108 : w4.heap.size + 1 < w8.heap.size := World.block_lt_of_cell? _ _ f100
      have hW8 := bseq hB1 (bseq hB2 (bseq hB3 (bseq hB4 (bseq hB5 (bseq hB6 (bseq hB7 (hB8)))))))
      have hZ8 := hW8.size
      rw [d3, d4]
      clear d1 d2 d3 d4
      by_cases hp : posCode p1 q1 r1 t1 x = 0
      · have hp0 : (posCode p1 q1 r1 t1 x != 0) = false := by simpa using hp
        by_cases hz : x = 0
        · have hz0 : (x == 0) = true := by simpa using hz
          clear hz hp
          go_wp2
          go_ret
          exact ⟨rfl, (by first | exact hW8 | (have hx := hW8; go_grown))⟩
        · have hz0 : (x == 0) = false := by simpa using hz
          clear hz
          have ht := pos_time hp
          go_wp2_with fail
          rw [ht]
          refine (iPos_any _ _ _ _ _ _).mono ?_
          rintro en w9 ⟨rfl, hb9⟩
          have hB9 : Below w8.heap.size w8 w9 := by first | exact hb9 | exact Below.trans (by repeat (first | exact Below.refl _ _ | refine Below.drew ?_ | refine below_drewN ?_ _ | refine Below.alloc ?_ (by (try simp only [World.size_alloc, World.size_drew, size_drewN, World.size_setCell]); omega) _ | refine Below.setCell ?_ (by (try dsimp only); omega) _)) (hb9.mono (by (try simp only [World.size_alloc, World.size_drew, size_drewN, World.size_setCell]); omega))
          have f109 := later hB9 f88
          have f110 := later hB9 f89
          have f111 := later hB9 f90
          have f112 := later hB9 f91
          have f113 := later hB9 f92
          have f114 := later hB9 f93
          have f115 := later hB9 f94
          have f116 := later hB9 f95
          have f117 := later hB9 f96
          have f118 := later hB9 f97
          have f119 := later hB9 f98
          have f120 := later hB9 f99
          have f121 := later hB9 f100
          have f122 := later hB9 f101
          have f123 := later hB9 f102
          have f124 := later hB9 f103
          have l125 : w1.heap.size < w9.heap.size := World.block_lt_of_cell? _ _ f109
          have l126 : w2.heap.size < w9.heap.size := World.block_lt_of_cell? _ _ f113
          have l127 : w3.heap.size < w9.heap.size := World.block_lt_of_cell? _ _ f115
          have l128 : w4.heap.size < w9.heap.size := World.block_lt_of_cell? _ _ f117
          have l129 : w4.heap.size + 1 < w9.heap.size := World.block_lt_of_cell? _ _ f121
          have hW9 := bseq hB1 (bseq hB2 (bseq hB3 (bseq hB4 (bseq hB5 (bseq hB6 (bseq hB7 (bseq hB8 (hB9))))))))
          have hZ9 := hW9.size
          by_cases h5 : posCode p1 q1 r1 t1 (x - 1) = 0
          · obtain ⟨s1, s2⟩ := pos_step hp h5
            have h50 : (posCode p1 q1 r1 t1 (x - 1) != 0) = false := by simpa using h5
            clear h5 hp
            go_wp2
            go_ret
            exact ⟨rfl, (by first | exact hW9 | (have hx := hW9; go_grown))⟩
          · have h50 : (posCode p1 q1 r1 t1 (x - 1) != 0) = true := by simpa using h5
            clear h5 hp
            go_wp2
            go_ret
            exact ⟨rfl, (by first | exact hW9 | (have hx := hW9; go_grown))⟩
      · have hp0 : (posCode p1 q1 r1 t1 x != 0) = true := by simpa using hp
        clear hp
        go_wp2
        go_ret
        exact ⟨rfl, (by first | exact hW8 | (have hx := hW8; go_grown))⟩
    · have hk0 : (driftCode p2 q2 r2 t2 p3 q3 r3 t3 k == 0) = false := by simpa using hk
      clear hk
      by_cases hp : posCode p1 q1 r1 t1 x = 0
      · have hp0 : (posCode p1 q1 r1 t1 x != 0) = false := by simpa using hp
        by_cases hz : x = 0
        · have hz0 : (x == 0) = true := by simpa using hz
          clear hz hp
          go_wp2
          go_ret
          exact ⟨rfl, (by first | exact hW6 | (have hx := hW6; go_grown))⟩
        · have hz0 : (x == 0) = false := by simpa using hz
          clear hz
          have ht := pos_time hp
          go_wp2_with fail
          rw [ht]
          refine (iPos_any _ _ _ _ _ _).mono ?_
          rintro en w7 ⟨rfl, hb7⟩
          have hB7 : Below w6.heap.size w6 w7 := by first | exact hb7 | exact Below.trans (by repeat (first | exact Below.refl _ _ | refine Below.drew ?_ | refine below_drewN ?_ _ | refine Below.alloc ?_ (by (try simp only [World.size_alloc, World.size_drew, size_drewN, World.size_setCell]); omega) _ | refine Below.setCell ?_ (by (try dsimp only); omega) _)) (hb7.mono (by (try simp only [World.size_alloc, World.size_drew, size_drewN, World.size_setCell]); omega))
          have f67 := later hB7 f46
          have f68 := later hB7 f47
          have f69 := later hB7 f48
          have f70 := later hB7 f49
          have f71 := later hB7 f50
          have f72 := later hB7 f51
          have f73 := later hB7 f52
          have f74 := later hB7 f53
          have f75 := later hB7 f54
          have f76 := later hB7 f55
          have f77 := later hB7 f56
          have f78 := later hB7 f57
          have f79 := later hB7 f58
          have f80 := later hB7 f59
          have f81 := later hB7 f60
          have f82 := later hB7 f61
          have l83 : w1.heap.size < w7.heap.size := World.block_lt_of_cell? _ _ f67
          have l84 : w2.heap.size < w7.heap.size := World.block_lt_of_cell? _ _ f71
          have l85 : w3.heap.size < w7.heap.size := World.block_lt_of_cell? _ _ f73
          have l86 : w4.heap.size < w7.heap.size := World.block_lt_of_cell? _ _ f75
          have l87 : w4.heap.size + 1 < w7.heap.size := World.block_lt_of_cell? _ _ f79
          have hW7 := bseq hB1 (bseq hB2 (bseq hB3 (bseq hB4 (bseq hB5 (bseq hB6 (hB7))))))
          have hZ7 := hW7.size
          by_cases h5 : posCode p1 q1 r1 t1 (x - 1) = 0
          · obtain ⟨s1, s2⟩ := pos_step hp h5
            have h50 : (posCode p1 q1 r1 t1 (x - 1) != 0) = false := by simpa using h5
            clear h5 hp
            go_wp2
            go_ret
            exact ⟨rfl, (by first | exact hW7 | (have hx := hW7; go_grown))⟩
          · have h50 : (posCode p1 q1 r1 t1 (x - 1) != 0) = true := by simpa using h5
            clear h5 hp
            go_wp2
            go_ret
            exact ⟨rfl, (by first | exact hW7 | (have hx := hW7; go_grown))⟩
      · have hp0 : (posCode p1 q1 r1 t1 x != 0) = true := by simpa using hp
        clear hp
        go_wp2
        go_ret
        exact ⟨rfl, (by first | exact hW6 | (have hx := hW6; go_grown))⟩
end Go.Proofs.Ytoccglmlpobeeaa
