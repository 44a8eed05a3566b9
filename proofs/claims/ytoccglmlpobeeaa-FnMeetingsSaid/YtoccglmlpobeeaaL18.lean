/- the law, walked: FnMeetings -/
import Derived.Test.YtoccglmlpobeeaaW22
import Derived.Test.YtoccglmlpobeeaaOpenB
import Derived.Deep.DeepCutAuto
set_option linter.unusedVariables false
set_option linter.unusedSimpArgs false
namespace Go.Proofs.Ytoccglmlpobeeaa
open Go.RowKit

set_option maxRecDepth 100000 in
set_option maxHeartbeats 16000000 in
theorem lawMeetings_any (A : Option Addr) (n c : Nat) (w : World) (hr : RdB w A n) :
    Calls Try.prog 21 #[.slice A n c] w fun en w9 => en = .returned (.bool true) ∧ Below w.heap.size w w9 := by
  by_cases hm : 4096 < (n : Int)
  · have hbig : decide (4096 < (n : Int)) = true := decide_eq_true hm
    go_enter Try.func21, Try.ntmps21
    go_wp2_with fail
    refine (big_any _ _ _ _).mono ?_
    rintro en wz ⟨rfl, rfl⟩
    rw [hbig]
    go_wp2
    go_ret
    exact ⟨rfl, Below.refl _ _⟩
  · have hbig : decide (4096 < (n : Int)) = false := decide_eq_false hm
    have hm2 : n ≤ 4096 := by omega
    go_enter Try.func21, Try.ntmps21
    go_wp2_with fail
    refine (big_any _ _ _ _).mono ?_
    rintro en wz ⟨rfl, rfl⟩
    rw [hbig]
    clear hbig hm
    go_wp2_with fail
    refine (dCsq_any A n c _ hr hm2).mono ?_
    rintro en w1 ⟨p1, q1, r1, t1, p2, q2, r2, t2, rfl, hb1⟩
    have hB1 : Below w.heap.size w w1 := by first | exact hb1 | exact Below.trans (by repeat (first | exact Below.refl _ _ | refine Below.drew ?_ | refine below_drewN ?_ _ | refine Below.alloc ?_ (by (try simp only [World.size_alloc, World.size_drew, size_drewN, World.size_setCell]); omega) _ | refine Below.setCell ?_ (by (try dsimp only); omega) _)) (hb1.mono (by (try simp only [World.size_alloc, World.size_drew, size_drewN, World.size_setCell]); omega))
    have hZ1 := hB1.size
    obtain ⟨X, Y, K, T, U, J, M, C, HV⟩ := mt_letters p1 q1 r1 t1 p2 q2 r2 t2
    go_wp2_with fail
    refine (iCSL_any _ _ _ _ _ _ _ _ X Y K T U J M C _ HV).mono ?_
    rintro en w2 ⟨rfl, hb2⟩
    have hB2 : Below w1.heap.size w1 w2 := by first | exact hb2 | exact Below.trans (by repeat (first | exact Below.refl _ _ | refine Below.drew ?_ | refine below_drewN ?_ _ | refine Below.alloc ?_ (by (try simp only [World.size_alloc, World.size_drew, size_drewN, World.size_setCell]); omega) _ | refine Below.setCell ?_ (by (try dsimp only); omega) _)) (hb2.mono (by (try simp only [World.size_alloc, World.size_drew, size_drewN, World.size_setCell]); omega))
    have f1 : w2.cell? ⟨w1.heap.size, 0, none⟩ = some (.int .i64 p1) := (hb2.cell (p := ⟨w1.heap.size, 0, none⟩) (by first | (go_size; done) | (simp; done) | (simp <;> omega))).trans (by go_simp)
    have f2 : w2.cell? ⟨w1.heap.size, 1, none⟩ = some (.int .i64 q1) := (hb2.cell (p := ⟨w1.heap.size, 1, none⟩) (by first | (go_size; done) | (simp; done) | (simp <;> omega))).trans (by go_simp)
    have f3 : w2.cell? ⟨w1.heap.size, 2, none⟩ = some (.int .i64 r1) := (hb2.cell (p := ⟨w1.heap.size, 2, none⟩) (by first | (go_size; done) | (simp; done) | (simp <;> omega))).trans (by go_simp)
    have f4 : w2.cell? ⟨w1.heap.size, 3, none⟩ = some (.int .i64 t1) := (hb2.cell (p := ⟨w1.heap.size, 3, none⟩) (by first | (go_size; done) | (simp; done) | (simp <;> omega))).trans (by go_simp)
    have f5 : w2.cell? ⟨w1.heap.size + 1, 0, none⟩ = some (.int .i64 p2) := (hb2.cell (p := ⟨w1.heap.size + 1, 0, none⟩) (by first | (go_size; done) | (simp; done) | (simp <;> omega))).trans (by go_simp)
    have f6 : w2.cell? ⟨w1.heap.size + 1, 1, none⟩ = some (.int .i64 q2) := (hb2.cell (p := ⟨w1.heap.size + 1, 1, none⟩) (by first | (go_size; done) | (simp; done) | (simp <;> omega))).trans (by go_simp)
    have f7 : w2.cell? ⟨w1.heap.size + 1, 2, none⟩ = some (.int .i64 r2) := (hb2.cell (p := ⟨w1.heap.size + 1, 2, none⟩) (by first | (go_size; done) | (simp; done) | (simp <;> omega))).trans (by go_simp)
    have f8 : w2.cell? ⟨w1.heap.size + 1, 3, none⟩ = some (.int .i64 t2) := (hb2.cell (p := ⟨w1.heap.size + 1, 3, none⟩) (by first | (go_size; done) | (simp; done) | (simp <;> omega))).trans (by go_simp)
    have l9 : w1.heap.size < w2.heap.size := World.block_lt_of_cell? _ _ f1
    have l10 : w1.heap.size + 1 < w2.heap.size := World.block_lt_of_cell? _ _ f5
    have hW2 := bseq hB1 (hB2)
    have hZ2 := hW2.size
    go_wp2_with fail
    refine (sCSL_any _ _ _ _ _ _ _ _ X Y K T U J M C _ HV).mono ?_
    rintro en w3 ⟨rfl, hb3⟩
    have hB3 : Below w2.heap.size w2 w3 := by first | exact hb3 | exact Below.trans (by repeat (first | exact Below.refl _ _ | refine Below.drew ?_ | refine below_drewN ?_ _ | refine Below.alloc ?_ (by (try simp only [World.size_alloc, World.size_drew, size_drewN, World.size_setCell]); omega) _ | refine Below.setCell ?_ (by (try dsimp only); omega) _)) (hb3.mono (by (try simp only [World.size_alloc, World.size_drew, size_drewN, World.size_setCell]); omega))
    have f11 := later hB3 f1
    have f12 := later hB3 f2
    have f13 := later hB3 f3
    have f14 := later hB3 f4
    have f15 := later hB3 f5
    have f16 := later hB3 f6
    have f17 := later hB3 f7
    have f18 := later hB3 f8
    have f19 : w3.cell? ⟨w2.heap.size, 0, none⟩ = some (.int .i64 X) := (hb3.cell (p := ⟨w2.heap.size, 0, none⟩) (by first | (go_size; done) | (simp; done) | (simp <;> omega))).trans (by go_simp)
    have f20 : w3.cell? ⟨w2.heap.size, 1, none⟩ = some (.int .i64 Y) := (hb3.cell (p := ⟨w2.heap.size, 1, none⟩) (by first | (go_size; done) | (simp; done) | (simp <;> omega))).trans (by go_simp)
    have l21 : w1.heap.size < w3.heap.size := World.block_lt_of_cell? _ _ f11
    have l22 : w1.heap.size + 1 < w3.heap.size := World.block_lt_of_cell? _ _ f15
    have l23 : w2.heap.size < w3.heap.size := World.block_lt_of_cell? _ _ f19
    have hW3 := bseq hB1 (bseq hB2 (hB3))
    have hZ3 := hW3.size
    go_wp2_with fail
    refine (iCTL_any _ _ _ _ _ _ _ _ X Y K T U J M C _ HV).mono ?_
    rintro en w4 ⟨rfl, hb4⟩
    have hB4 : Below w3.heap.size w3 w4 := by first | exact hb4 | exact Below.trans (by repeat (first | exact Below.refl _ _ | refine Below.drew ?_ | refine below_drewN ?_ _ | refine Below.alloc ?_ (by (try simp only [World.size_alloc, World.size_drew, size_drewN, World.size_setCell]); omega) _ | refine Below.setCell ?_ (by (try dsimp only); omega) _)) (hb4.mono (by (try simp only [World.size_alloc, World.size_drew, size_drewN, World.size_setCell]); omega))
    have f24 := later hB4 f11
    have f25 := later hB4 f12
    have f26 := later hB4 f13
    have f27 := later hB4 f14
    have f28 := later hB4 f15
    have f29 := later hB4 f16
    have f30 := later hB4 f17
    have f31 := later hB4 f18
    have f32 := later hB4 f19
    have f33 := later hB4 f20
    have f34 : w4.cell? ⟨w3.heap.size, 0, none⟩ = some (.int .i64 X) := (hb4.cell (p := ⟨w3.heap.size, 0, none⟩) (by first | (go_size; done) | (simp; done) | (simp <;> omega))).trans (by go_simp)
    have f35 : w4.cell? ⟨w3.heap.size, 1, none⟩ = some (.int .i64 Y) := (hb4.cell (p := ⟨w3.heap.size, 1, none⟩) (by first | (go_size; done) | (simp; done) | (simp <;> omega))).trans (by go_simp)
    have l36 : w1.heap.size < w4.heap.size := World.block_lt_of_cell? _ _ f24
    have l37 : w1.heap.size + 1 < w4.heap.size := World.block_lt_of_cell? _ _ f28
    have l38 : w2.heap.size < w4.heap.size := World.block_lt_of_cell? _ _ f32
    have l39 : w3.heap.size < w4.heap.size := World.block_lt_of_cell? _ _ f34
    have hW4 := bseq hB1 (bseq hB2 (bseq hB3 (hB4)))
    have hZ4 := hW4.size
    go_wp2_with fail
    refine (sCTL_any _ _ _ _ _ _ _ _ X Y K T U J M C _ HV).mono ?_
    rintro en w5 ⟨rfl, hb5⟩
    have hB5 : Below w4.heap.size w4 w5 := by first | exact hb5 | exact Below.trans (by repeat (first | exact Below.refl _ _ | refine Below.drew ?_ | refine below_drewN ?_ _ | refine Below.alloc ?_ (by (try simp only [World.size_alloc, World.size_drew, size_drewN, World.size_setCell]); omega) _ | refine Below.setCell ?_ (by (try dsimp only); omega) _)) (hb5.mono (by (try simp only [World.size_alloc, World.size_drew, size_drewN, World.size_setCell]); omega))
    have f40 := later hB5 f24
    have f41 := later hB5 f25
    have f42 := later hB5 f26
    have f43 := later hB5 f27
    have f44 := later hB5 f28
    have f45 := later hB5 f29
    have f46 := later hB5 f30
    have f47 := later hB5 f31
    have f48 := later hB5 f32
    have f49 := later hB5 f33
    have f50 := later hB5 f34
    have f51 := later hB5 f35
    have f52 : w5.cell? ⟨w4.heap.size, 0, none⟩ = some (.int .i64 T) := (hb5.cell (p := ⟨w4.heap.size, 0, none⟩) (by first | (go_size; done) | (simp; done) | (simp <;> omega))).trans (by go_simp)
    have f53 : w5.cell? ⟨w4.heap.size, 1, none⟩ = some (.int .i64 U) := (hb5.cell (p := ⟨w4.heap.size, 1, none⟩) (by first | (go_size; done) | (simp; done) | (simp <;> omega))).trans (by go_simp)
    have l54 : w1.heap.size < w5.heap.size := World.block_lt_of_cell? _ _ f40
    have l55 : w1.heap.size + 1 < w5.heap.size := World.block_lt_of_cell? _ _ f44
    have l56 : w2.heap.size < w5.heap.size := World.block_lt_of_cell? _ _ f48
    have l57 : w3.heap.size < w5.heap.size := World.block_lt_of_cell? _ _ f50
    have l58 : w4.heap.size < w5.heap.size := World.block_lt_of_cell? _ _ f52
    have hW5 := bseq hB1 (bseq hB2 (bseq hB3 (bseq hB4 (hB5))))
    have hZ5 := hW5.size
    go_wp2_with fail
    refine (iDoL_any _ _ _ _ _ _ _ _ X Y K T U J M C _ HV).mono ?_
    rintro en w6 ⟨rfl, hb6⟩
    have hB6 : Below w5.heap.size w5 w6 := by first | exact hb6 | exact Below.trans (by repeat (first | exact Below.refl _ _ | refine Below.drew ?_ | refine below_drewN ?_ _ | refine Below.alloc ?_ (by (try simp only [World.size_alloc, World.size_drew, size_drewN, World.size_setCell]); omega) _ | refine Below.setCell ?_ (by (try dsimp only); omega) _)) (hb6.mono (by (try simp only [World.size_alloc, World.size_drew, size_drewN, World.size_setCell]); omega))
    have f59 := later hB6 f40
    have f60 := later hB6 f41
    have f61 := later hB6 f42
    have f62 := later hB6 f43
    have f63 := later hB6 f44
    have f64 := later hB6 f45
    have f65 := later hB6 f46
    have f66 := later hB6 f47
    have f67 := later hB6 f48
    have f68 := later hB6 f49
    have f69 := later hB6 f50
    have f70 := later hB6 f51
    have f71 := later hB6 f52
    have f72 := later hB6 f53
    have f73 : w6.cell? ⟨w5.heap.size, 0, none⟩ = some (.int .i64 T) := (hb6.cell (p := ⟨w5.heap.size, 0, none⟩) (by first | (go_size; done) | (simp; done) | (simp <;> omega))).trans (by go_simp)
    have f74 : w6.cell? ⟨w5.heap.size, 1, none⟩ = some (.int .i64 U) := (hb6.cell (p := ⟨w5.heap.size, 1, none⟩) (by first | (go_size; done) | (simp; done) | (simp <;> omega))).trans (by go_simp)
    have l75 : w1.heap.size < w6.heap.size := World.block_lt_of_cell? _ _ f59
    have l76 : w1.heap.size + 1 < w6.heap.size := World.block_lt_of_cell? _ _ f63
    have l77 : w2.heap.size < w6.heap.size := World.block_lt_of_cell? _ _ f67
    have l78 : w3.heap.size < w6.heap.size := World.block_lt_of_cell? _ _ f69
    have l79 : w4.heap.size < w6.heap.size := World.block_lt_of_cell? _ _ f71
    have l80 : w5.heap.size < w6.heap.size := World.block_lt_of_cell? _ _ f73
    have hW6 := bseq hB1 (bseq hB2 (bseq hB3 (bseq hB4 (bseq hB5 (hB6)))))
    have hZ6 := hW6.size
    go_wp2_with fail
    refine (sDoL_any _ _ _ _ _ _ _ _ X Y K T U J M C _ HV).mono ?_
    rintro en w7 ⟨rfl, hb7⟩
    have hB7 : Below w6.heap.size w6 w7 := by first | exact hb7 | exact Below.trans (by repeat (first | exact Below.refl _ _ | refine Below.drew ?_ | refine below_drewN ?_ _ | refine Below.alloc ?_ (by (try simp only [World.size_alloc, World.size_drew, size_drewN, World.size_setCell]); omega) _ | refine Below.setCell ?_ (by (try dsimp only); omega) _)) (hb7.mono (by (try simp only [World.size_alloc, World.size_drew, size_drewN, World.size_setCell]); omega))
    have f81 := later hB7 f59
    have f82 := later hB7 f60
    have f83 := later hB7 f61
    have f84 := later hB7 f62
    have f85 := later hB7 f63
    have f86 := later hB7 f64
    have f87 := later hB7 f65
    have f88 := later hB7 f66
    have f89 := later hB7 f67
    have f90 := later hB7 f68
    have f91 := later hB7 f69
    have f92 := later hB7 f70
    have f93 := later hB7 f71
    have f94 := later hB7 f72
    have f95 := later hB7 f73
    have f96 := later hB7 f74
    have l97 : w1.heap.size < w7.heap.size := World.block_lt_of_cell? _ _ f81
    have l98 : w1.heap.size + 1 < w7.heap.size := World.block_lt_of_cell? _ _ f85
    have l99 : w2.heap.size < w7.heap.size := World.block_lt_of_cell? _ _ f89
    have l100 : w3.heap.size < w7.heap.size := World.block_lt_of_cell? _ _ f91
    have l101 : w4.heap.size < w7.heap.size := World.block_lt_of_cell? _ _ f93
    have l102 : w5.heap.size < w7.heap.size := World.block_lt_of_cell? _ _ f95
    have hW7 := bseq hB1 (bseq hB2 (bseq hB3 (bseq hB4 (bseq hB5 (bseq hB6 (hB7))))))
    have hZ7 := hW7.size
    by_cases hk : K = 0
    · have hk0 : (K != 0) = false := by simpa using hk
      obtain ⟨hM, hT⟩ := mt_1 HV hk
      have HK := Lib.hid hk; clear hk
      have hT2 : ¬ T < 0 := by omega
      subst hM
      by_cases hj : J = 0
      · have hj0 : (J == 0) = true := by simpa using hj
        clear hj
        go_wp2_with fail
        refine (roll_any A n c 1201 _ (RdB.below hr hW7) hm2).mono ?_
        rintro en vr ⟨sd, rfl, hsd, hdd, hbr⟩
        go_wp2_with fail
        refine (dbelow_any sd 50 _ hdd (by decide)).mono ?_
        rintro en vs ⟨tm, rfl, tm0, tm1, hd2, hg2⟩
        have hbvs : Below w7.heap.size w7 vs := Below.trans hbr (hg2.to_below hsd hbr.size)
        have hB8 := hbvs
        have f103 := later hB8 f81
        have f104 := later hB8 f82
        have f105 := later hB8 f83
        have f106 := later hB8 f84
        have f107 := later hB8 f85
        have f108 := later hB8 f86
        have f109 := later hB8 f87
        have f110 := later hB8 f88
        have f111 := later hB8 f89
        have f112 := later hB8 f90
        have f113 := later hB8 f91
        have f114 := later hB8 f92
        have f115 := later hB8 f93
        have f116 := later hB8 f94
        have f117 := later hB8 f95
        have f118 := later hB8 f96
        have l119 : w1.heap.size < vs.heap.size := World.block_lt_of_cell? _ _ f103
        have l120 : w1.heap.size + 1 < vs.heap.size := World.block_lt_of_cell? _ _ f107
        have l121 : w2.heap.size < vs.heap.size := World.block_lt_of_cell? _ _ f111
        have l122 : w3.heap.size < vs.heap.size := World.block_lt_of_cell? _ _ f113
        have l123 : w4.heap.size < vs.heap.size := World.block_lt_of_cell? _ _ f115
        have l124 : w5.heap.size < vs.heap.size := World.block_lt_of_cell? _ _ f117
        have hW8 := bseq hB1 (bseq hB2 (bseq hB3 (bseq hB4 (bseq hB5 (bseq hB6 (bseq hB7 (hB8)))))))
        have hZ8 := hW8.size
        go_wp2_with fail
        refine (iPosL_any _ _ _ _ _ _).mono ?_
        rintro en w9 ⟨x1, y1, k1, rfl, HP, hb9⟩
        have hB9 : Below vs.heap.size vs w9 := by first | exact hb9 | exact Below.trans (by repeat (first | exact Below.refl _ _ | refine Below.drew ?_ | refine below_drewN ?_ _ | refine Below.alloc ?_ (by (try simp only [World.size_alloc, World.size_drew, size_drewN, World.size_setCell]); omega) _ | refine Below.setCell ?_ (by (try dsimp only); omega) _)) (hb9.mono (by (try simp only [World.size_alloc, World.size_drew, size_drewN, World.size_setCell]); omega))
        have f125 := later hB9 f103
        have f126 := later hB9 f104
        have f127 := later hB9 f105
        have f128 := later hB9 f106
        have f129 := later hB9 f107
        have f130 := later hB9 f108
        have f131 := later hB9 f109
        have f132 := later hB9 f110
        have f133 := later hB9 f111
        have f134 := later hB9 f112
        have f135 := later hB9 f113
        have f136 := later hB9 f114
        have f137 := later hB9 f115
        have f138 := later hB9 f116
        have f139 := later hB9 f117
        have f140 := later hB9 f118
        have l141 : w1.heap.size < w9.heap.size := World.block_lt_of_cell? _ _ f125
        have l142 : w1.heap.size + 1 < w9.heap.size := World.block_lt_of_cell? _ _ f129
        have l143 : w2.heap.size < w9.heap.size := World.block_lt_of_cell? _ _ f133
        have l144 : w3.heap.size < w9.heap.size := World.block_lt_of_cell? _ _ f135
        have l145 : w4.heap.size < w9.heap.size := World.block_lt_of_cell? _ _ f137
        have l146 : w5.heap.size < w9.heap.size := World.block_lt_of_cell? _ _ f139
        have hW9 := bseq hB1 (bseq hB2 (bseq hB3 (bseq hB4 (bseq hB5 (bseq hB6 (bseq hB7 (bseq hB8 (hB9))))))))
        have hZ9 := hW9.size
        go_wp2_with fail
        refine (iPosL_any _ _ _ _ _ _).mono ?_
        rintro en w10 ⟨x2, y2, k2, rfl, HQ, hb10⟩
        have hB10 : Below w9.heap.size w9 w10 := by first | exact hb10 | exact Below.trans (by repeat (first | exact Below.refl _ _ | refine Below.drew ?_ | refine below_drewN ?_ _ | refine Below.alloc ?_ (by (try simp only [World.size_alloc, World.size_drew, size_drewN, World.size_setCell]); omega) _ | refine Below.setCell ?_ (by (try dsimp only); omega) _)) (hb10.mono (by (try simp only [World.size_alloc, World.size_drew, size_drewN, World.size_setCell]); omega))
        have f147 := later hB10 f125
        have f148 := later hB10 f126
        have f149 := later hB10 f127
        have f150 := later hB10 f128
        have f151 := later hB10 f129
        have f152 := later hB10 f130
        have f153 := later hB10 f131
        have f154 := later hB10 f132
        have f155 := later hB10 f133
        have f156 := later hB10 f134
        have f157 := later hB10 f135
        have f158 := later hB10 f136
        have f159 := later hB10 f137
        have f160 := later hB10 f138
        have f161 := later hB10 f139
        have f162 := later hB10 f140
        have f163 : w10.cell? ⟨w9.heap.size, 0, none⟩ = some (.int .i64 x1) := (hb10.cell (p := ⟨w9.heap.size, 0, none⟩) (by first | (go_size; done) | (simp; done) | (simp <;> omega))).trans (by go_simp)
        have f164 : w10.cell? ⟨w9.heap.size, 1, none⟩ = some (.int .i64 y1) := (hb10.cell (p := ⟨w9.heap.size, 1, none⟩) (by first | (go_size; done) | (simp; done) | (simp <;> omega))).trans (by go_simp)
        have l165 : w1.heap.size < w10.heap.size := World.block_lt_of_cell? _ _ f147
        have l166 : w1.heap.size + 1 < w10.heap.size := World.block_lt_of_cell? _ _ f151
        have l167 : w2.heap.size < w10.heap.size := World.block_lt_of_cell? _ _ f155
        have l168 : w3.heap.size < w10.heap.size := World.block_lt_of_cell? _ _ f157
        have l169 : w4.heap.size < w10.heap.size := World.block_lt_of_cell? _ _ f159
        have l170 : w5.heap.size < w10.heap.size := World.block_lt_of_cell? _ _ f161
        have l171 : w9.heap.size < w10.heap.size := World.block_lt_of_cell? _ _ f163
        have hW10 := bseq hB1 (bseq hB2 (bseq hB3 (bseq hB4 (bseq hB5 (bseq hB6 (bseq hB7 (bseq hB8 (bseq hB9 (hB10)))))))))
        have hZ10 := hW10.size
        by_cases e1 : k1 = 0
        · by_cases e2 : k2 = 0
          · have e10 : (k1 != 0) = false := by simpa using e1
            have e20 : (k2 != 0) = false := by simpa using e2
            obtain ⟨d1, d2, d3, d4, d5, d6, d7, d8⟩ := mt_2 HV HK.out tm0 HP HQ e1 e2
            clear e1 e2 HV HP HQ HK
            go_wp2_with (go_ret; exact ⟨by first | rfl | (rw [decide_eq_true d8]; rfl), (by first | exact hW10 | (have hx := hW10; go_grown))⟩)
          · have e10 : (k1 != 0) = false := by simpa using e1
            have e20 : (k2 != 0) = true := by simpa using e2
            clear e1 e2 HV HP HQ HK
            go_wp2_with (go_ret; exact ⟨rfl, (by first | exact hW10 | (have hx := hW10; go_grown))⟩)
        · have e10 : (k1 != 0) = true := by simpa using e1
          clear e1 HV HP HQ HK
          go_wp2_with (go_ret; exact ⟨rfl, (by first | exact hW10 | (have hx := hW10; go_grown))⟩)
      · have hj0 : (J == 0) = false := by simpa using hj
        clear hj
        go_wp2_with fail
        refine (roll_any A n c 1201 _ (RdB.below hr hW7) hm2).mono ?_
        rintro en vr ⟨sd, rfl, hsd, hdd, hbr⟩
        go_wp2_with fail
        refine (dbelow_any sd 50 _ hdd (by decide)).mono ?_
        rintro en vs ⟨tm, rfl, tm0, tm1, hd2, hg2⟩
        have hbvs : Below w7.heap.size w7 vs := Below.trans hbr (hg2.to_below hsd hbr.size)
        have hB8 := hbvs
        have f103 := later hB8 f81
        have f104 := later hB8 f82
        have f105 := later hB8 f83
        have f106 := later hB8 f84
        have f107 := later hB8 f85
        have f108 := later hB8 f86
        have f109 := later hB8 f87
        have f110 := later hB8 f88
        have f111 := later hB8 f89
        have f112 := later hB8 f90
        have f113 := later hB8 f91
        have f114 := later hB8 f92
        have f115 := later hB8 f93
        have f116 := later hB8 f94
        have f117 := later hB8 f95
        have f118 := later hB8 f96
        have l119 : w1.heap.size < vs.heap.size := World.block_lt_of_cell? _ _ f103
        have l120 : w1.heap.size + 1 < vs.heap.size := World.block_lt_of_cell? _ _ f107
        have l121 : w2.heap.size < vs.heap.size := World.block_lt_of_cell? _ _ f111
        have l122 : w3.heap.size < vs.heap.size := World.block_lt_of_cell? _ _ f113
        have l123 : w4.heap.size < vs.heap.size := World.block_lt_of_cell? _ _ f115
        have l124 : w5.heap.size < vs.heap.size := World.block_lt_of_cell? _ _ f117
        have hW8 := bseq hB1 (bseq hB2 (bseq hB3 (bseq hB4 (bseq hB5 (bseq hB6 (bseq hB7 (hB8)))))))
        have hZ8 := hW8.size
        go_wp2_with fail
        refine (iPosL_any _ _ _ _ _ _).mono ?_
        rintro en w9 ⟨x1, y1, k1, rfl, HP, hb9⟩
        have hB9 : Below vs.heap.size vs w9 := by first | exact hb9 | exact Below.trans (by repeat (first | exact Below.refl _ _ | refine Below.drew ?_ | refine below_drewN ?_ _ | refine Below.alloc ?_ (by (try simp only [World.size_alloc, World.size_drew, size_drewN, World.size_setCell]); omega) _ | refine Below.setCell ?_ (by (try dsimp only); omega) _)) (hb9.mono (by (try simp only [World.size_alloc, World.size_drew, size_drewN, World.size_setCell]); omega))
        have f125 := later hB9 f103
        have f126 := later hB9 f104
        have f127 := later hB9 f105
        have f128 := later hB9 f106
        have f129 := later hB9 f107
        have f130 := later hB9 f108
        have f131 := later hB9 f109
        have f132 := later hB9 f110
        have f133 := later hB9 f111
        have f134 := later hB9 f112
        have f135 := later hB9 f113
        have f136 := later hB9 f114
        have f137 := later hB9 f115
        have f138 := later hB9 f116
        have f139 := later hB9 f117
        have f140 := later hB9 f118
        have l141 : w1.heap.size < w9.heap.size := World.block_lt_of_cell? _ _ f125
        have l142 : w1.heap.size + 1 < w9.heap.size := World.block_lt_of_cell? _ _ f129
        have l143 : w2.heap.size < w9.heap.size := World.block_lt_of_cell? _ _ f133
        have l144 : w3.heap.size < w9.heap.size := World.block_lt_of_cell? _ _ f135
        have l145 : w4.heap.size < w9.heap.size := World.block_lt_of_cell? _ _ f137
        have l146 : w5.heap.size < w9.heap.size := World.block_lt_of_cell? _ _ f139
        have hW9 := bseq hB1 (bseq hB2 (bseq hB3 (bseq hB4 (bseq hB5 (bseq hB6 (bseq hB7 (bseq hB8 (hB9))))))))
        have hZ9 := hW9.size
        go_wp2_with fail
        refine (iPosL_any _ _ _ _ _ _).mono ?_
        rintro en w10 ⟨x2, y2, k2, rfl, HQ, hb10⟩
        have hB10 : Below w9.heap.size w9 w10 := by first | exact hb10 | exact Below.trans (by repeat (first | exact Below.refl _ _ | refine Below.drew ?_ | refine below_drewN ?_ _ | refine Below.alloc ?_ (by (try simp only [World.size_alloc, World.size_drew, size_drewN, World.size_setCell]); omega) _ | refine Below.setCell ?_ (by (try dsimp only); omega) _)) (hb10.mono (by (try simp only [World.size_alloc, World.size_drew, size_drewN, World.size_setCell]); omega))
        have f147 := later hB10 f125
        have f148 := later hB10 f126
        have f149 := later hB10 f127
        have f150 := later hB10 f128
        have f151 := later hB10 f129
        have f152 := later hB10 f130
        have f153 := later hB10 f131
        have f154 := later hB10 f132
        have f155 := later hB10 f133
        have f156 := later hB10 f134
        have f157 := later hB10 f135
        have f158 := later hB10 f136
        have f159 := later hB10 f137
        have f160 := later hB10 f138
        have f161 := later hB10 f139
        have f162 := later hB10 f140
        have f163 : w10.cell? ⟨w9.heap.size, 0, none⟩ = some (.int .i64 x1) := (hb10.cell (p := ⟨w9.heap.size, 0, none⟩) (by first | (go_size; done) | (simp; done) | (simp <;> omega))).trans (by go_simp)
        have f164 : w10.cell? ⟨w9.heap.size, 1, none⟩ = some (.int .i64 y1) := (hb10.cell (p := ⟨w9.heap.size, 1, none⟩) (by first | (go_size; done) | (simp; done) | (simp <;> omega))).trans (by go_simp)
        have l165 : w1.heap.size < w10.heap.size := World.block_lt_of_cell? _ _ f147
        have l166 : w1.heap.size + 1 < w10.heap.size := World.block_lt_of_cell? _ _ f151
        have l167 : w2.heap.size < w10.heap.size := World.block_lt_of_cell? _ _ f155
        have l168 : w3.heap.size < w10.heap.size := World.block_lt_of_cell? _ _ f157
        have l169 : w4.heap.size < w10.heap.size := World.block_lt_of_cell? _ _ f159
        have l170 : w5.heap.size < w10.heap.size := World.block_lt_of_cell? _ _ f161
        have l171 : w9.heap.size < w10.heap.size := World.block_lt_of_cell? _ _ f163
        have hW10 := bseq hB1 (bseq hB2 (bseq hB3 (bseq hB4 (bseq hB5 (bseq hB6 (bseq hB7 (bseq hB8 (bseq hB9 (hB10)))))))))
        have hZ10 := hW10.size
        by_cases e1 : k1 = 0
        · by_cases e2 : k2 = 0
          · have e10 : (k1 != 0) = false := by simpa using e1
            have e20 : (k2 != 0) = false := by simpa using e2
            obtain ⟨d1, d2, d3, d4, d5, d6, d7, d8⟩ := mt_2 HV HK.out tm0 HP HQ e1 e2
            clear e1 e2 HV HP HQ HK
            go_wp2_with (go_ret; exact ⟨by first | rfl | (rw [decide_eq_true d8]; rfl), (by first | exact hW10 | (have hx := hW10; go_grown))⟩)
          · have e10 : (k1 != 0) = false := by simpa using e1
            have e20 : (k2 != 0) = true := by simpa using e2
            clear e1 e2 HV HP HQ HK
            go_wp2_with (go_ret; exact ⟨rfl, (by first | exact hW10 | (have hx := hW10; go_grown))⟩)
        · have e10 : (k1 != 0) = true := by simpa using e1
          clear e1 HV HP HQ HK
          go_wp2_with (go_ret; exact ⟨rfl, (by first | exact hW10 | (have hx := hW10; go_grown))⟩)
    · have hk0 : (K != 0) = true := by simpa using hk
      clear hk HV
      go_wp2_with (go_ret; exact ⟨rfl, (by first | exact hW7 | (have hx := hW7; go_grown))⟩)
end Go.Proofs.Ytoccglmlpobeeaa
