/- the law, walked: FnSides -/
import Derived.Test.YtoccglmlpobeeaaDrW5
import Derived.Test.YtoccglmlpobeeaaPlainS
import Derived.Test.YtoccglmlpobeeaaW2
import Derived.Test.YtoccglmlpobeeaaW4
import Derived.Deep.DeepCutAuto
set_option linter.unusedVariables false
set_option linter.unusedSimpArgs false
namespace Go.Proofs.Ytoccglmlpobeeaa
open Go.RowKit

set_option maxHeartbeats 16000000 in
theorem lawSides_any (A : Option Addr) (n c : Nat) (w : World) (hr : RdB w A n) :
    Calls Try.prog 18 #[.slice A n c] w fun en w9 => en = .returned (.bool true) ∧ Below w.heap.size w w9 := by
  by_cases hm : 4096 < (n : Int)
  · have hbig : decide (4096 < (n : Int)) = true := decide_eq_true hm
    go_enter Try.func18, Try.ntmps18
    go_wp2_with fail
    refine (big_any _ _ _ _).mono ?_
    rintro en wz ⟨rfl, rfl⟩
    rw [hbig]
    go_wp2
    go_ret
    exact ⟨rfl, Below.refl _ _⟩
  · have hbig : decide (4096 < (n : Int)) = false := decide_eq_false hm
    have hm2 : n ≤ 4096 := by omega
    go_enter Try.func18, Try.ntmps18
    go_wp2_with fail
    refine (big_any _ _ _ _).mono ?_
    rintro en wz ⟨rfl, rfl⟩
    rw [hbig]
    clear hbig hm
    go_wp2_with fail
    refine (dSide_any A n c _ hr hm2).mono ?_
    rintro en w1 ⟨x1, y1, x2, y2, x3, y3, rfl, hb1⟩
    have hB1 : Below w.heap.size w w1 := by first | exact hb1 | exact Below.trans (by repeat (first | exact Below.refl _ _ | refine Below.drew ?_ | refine below_drewN ?_ _ | refine Below.alloc ?_ (by (try simp only [World.size_alloc, World.size_drew, size_drewN, World.size_setCell]); omega) _ | refine Below.setCell ?_ (by (try dsimp only); omega) _)) (hb1.mono (by (try simp only [World.size_alloc, World.size_drew, size_drewN, World.size_setCell]); omega))
    have hZ1 := hB1.size
    go_wp2_with fail
    refine (iSide_any _ _ _ _ _ _ _).mono ?_
    rintro en w2 ⟨rfl, hb2⟩
    have hB2 : Below w1.heap.size w1 w2 := by first | exact hb2 | exact Below.trans (by repeat (first | exact Below.refl _ _ | refine Below.drew ?_ | refine below_drewN ?_ _ | refine Below.alloc ?_ (by (try simp only [World.size_alloc, World.size_drew, size_drewN, World.size_setCell]); omega) _ | refine Below.setCell ?_ (by (try dsimp only); omega) _)) (hb2.mono (by (try simp only [World.size_alloc, World.size_drew, size_drewN, World.size_setCell]); omega))
    have f1 : w2.cell? ⟨w1.heap.size, 0, none⟩ = some (.int .i64 x1) := (hb2.cell (p := ⟨w1.heap.size, 0, none⟩) (by first | (go_size; done) | (simp; done) | (simp <;> omega))).trans (by go_simp)
    have f2 : w2.cell? ⟨w1.heap.size, 1, none⟩ = some (.int .i64 y1) := (hb2.cell (p := ⟨w1.heap.size, 1, none⟩) (by first | (go_size; done) | (simp; done) | (simp <;> omega))).trans (by go_simp)
    have f3 : w2.cell? ⟨w1.heap.size + 1, 0, none⟩ = some (.int .i64 x2) := (hb2.cell (p := ⟨w1.heap.size + 1, 0, none⟩) (by first | (go_size; done) | (simp; done) | (simp <;> omega))).trans (by go_simp)
    have f4 : w2.cell? ⟨w1.heap.size + 1, 1, none⟩ = some (.int .i64 y2) := (hb2.cell (p := ⟨w1.heap.size + 1, 1, none⟩) (by first | (go_size; done) | (simp; done) | (simp <;> omega))).trans (by go_simp)
    have f5 : w2.cell? ⟨w1.heap.size + 2, 0, none⟩ = some (.int .i64 x3) := (hb2.cell (p := ⟨w1.heap.size + 2, 0, none⟩) (by first | (go_size; done) | (simp; done) | (simp <;> omega))).trans (by go_simp)
    have f6 : w2.cell? ⟨w1.heap.size + 2, 1, none⟩ = some (.int .i64 y3) := (hb2.cell (p := ⟨w1.heap.size + 2, 1, none⟩) (by first | (go_size; done) | (simp; done) | (simp <;> omega))).trans (by go_simp)
    have l7 : w1.heap.size < w2.heap.size := World.block_lt_of_cell? _ _ f1
    have l8 : w1.heap.size + 1 < w2.heap.size := World.block_lt_of_cell? _ _ f3
    have l9 : w1.heap.size + 2 < w2.heap.size := World.block_lt_of_cell? _ _ f5
    have hW2 := bseq hB1 (hB2)
    have hZ2 := hW2.size
    go_wp2_with fail
    refine (sSide_any _ _ _ _ _ _ _).mono ?_
    rintro en w3 ⟨rfl, hb3⟩
    have hB3 : Below w2.heap.size w2 w3 := by first | exact hb3 | exact Below.trans (by repeat (first | exact Below.refl _ _ | refine Below.drew ?_ | refine below_drewN ?_ _ | refine Below.alloc ?_ (by (try simp only [World.size_alloc, World.size_drew, size_drewN, World.size_setCell]); omega) _ | refine Below.setCell ?_ (by (try dsimp only); omega) _)) (hb3.mono (by (try simp only [World.size_alloc, World.size_drew, size_drewN, World.size_setCell]); omega))
    have f10 := later hB3 f1
    have f11 := later hB3 f2
    have f12 := later hB3 f3
    have f13 := later hB3 f4
    have f14 := later hB3 f5
    have f15 := later hB3 f6
    have l16 : w1.heap.size < w3.heap.size := World.block_lt_of_cell? _ _ f10
    have l17 : w1.heap.size + 1 < w3.heap.size := World.block_lt_of_cell? _ _ f12
    have l18 : w1.heap.size + 2 < w3.heap.size := World.block_lt_of_cell? _ _ f14
    have hW3 := bseq hB1 (bseq hB2 (hB3))
    have hZ3 := hW3.size
    go_wp2_with fail
    refine (dCmp_any A n c _ (RdB.below hr hW3) hm2).mono ?_
    rintro en w4 ⟨a, b, d, e, rfl, hb4⟩
    have hB4 : Below w3.heap.size w3 w4 := by first | exact hb4 | exact Below.trans (by repeat (first | exact Below.refl _ _ | refine Below.drew ?_ | refine below_drewN ?_ _ | refine Below.alloc ?_ (by (try simp only [World.size_alloc, World.size_drew, size_drewN, World.size_setCell]); omega) _ | refine Below.setCell ?_ (by (try dsimp only); omega) _)) (hb4.mono (by (try simp only [World.size_alloc, World.size_drew, size_drewN, World.size_setCell]); omega))
    have f19 := later hB4 f10
    have f20 := later hB4 f11
    have f21 := later hB4 f12
    have f22 := later hB4 f13
    have f23 := later hB4 f14
    have f24 := later hB4 f15
    have l25 : w1.heap.size < w4.heap.size := World.block_lt_of_cell? _ _ f19
    have l26 : w1.heap.size + 1 < w4.heap.size := World.block_lt_of_cell? _ _ f21
    have l27 : w1.heap.size + 2 < w4.heap.size := World.block_lt_of_cell? _ _ f23
    have hW4 := bseq hB1 (bseq hB2 (bseq hB3 (hB4)))
    have hZ4 := hW4.size
    go_wp2_with fail
    refine (iCmp_any _ _ _ _ _).mono ?_
    rintro en w5 ⟨rfl, hb5⟩
    have hB5 : Below w4.heap.size w4 w5 := by first | exact hb5 | exact Below.trans (by repeat (first | exact Below.refl _ _ | refine Below.drew ?_ | refine below_drewN ?_ _ | refine Below.alloc ?_ (by (try simp only [World.size_alloc, World.size_drew, size_drewN, World.size_setCell]); omega) _ | refine Below.setCell ?_ (by (try dsimp only); omega) _)) (hb5.mono (by (try simp only [World.size_alloc, World.size_drew, size_drewN, World.size_setCell]); omega))
    have f28 := later hB5 f19
    have f29 := later hB5 f20
    have f30 := later hB5 f21
    have f31 := later hB5 f22
    have f32 := later hB5 f23
    have f33 := later hB5 f24
    have f34 : w5.cell? ⟨w4.heap.size, 0, none⟩ = some (.int .i64 a) := (hb5.cell (p := ⟨w4.heap.size, 0, none⟩) (by first | (go_size; done) | (simp; done) | (simp <;> omega))).trans (by go_simp)
    have f35 : w5.cell? ⟨w4.heap.size, 1, none⟩ = some (.int .i64 b) := (hb5.cell (p := ⟨w4.heap.size, 1, none⟩) (by first | (go_size; done) | (simp; done) | (simp <;> omega))).trans (by go_simp)
    have f36 : w5.cell? ⟨w4.heap.size + 1, 0, none⟩ = some (.int .i64 d) := (hb5.cell (p := ⟨w4.heap.size + 1, 0, none⟩) (by first | (go_size; done) | (simp; done) | (simp <;> omega))).trans (by go_simp)
    have f37 : w5.cell? ⟨w4.heap.size + 1, 1, none⟩ = some (.int .i64 e) := (hb5.cell (p := ⟨w4.heap.size + 1, 1, none⟩) (by first | (go_size; done) | (simp; done) | (simp <;> omega))).trans (by go_simp)
    have l38 : w1.heap.size < w5.heap.size := World.block_lt_of_cell? _ _ f28
    have l39 : w1.heap.size + 1 < w5.heap.size := World.block_lt_of_cell? _ _ f30
    have l40 : w1.heap.size + 2 < w5.heap.size := World.block_lt_of_cell? _ _ f32
    have l41 : w4.heap.size < w5.heap.size := World.block_lt_of_cell? _ _ f34
    have l42 : w4.heap.size + 1 < w5.heap.size := World.block_lt_of_cell? _ _ f36
    have hW5 := bseq hB1 (bseq hB2 (bseq hB3 (bseq hB4 (hB5))))
    have hZ5 := hW5.size
    go_wp2_with fail
    refine (sCmp_any _ _ _ _ _).mono ?_
    rintro en w6 ⟨rfl, hb6⟩
    have hB6 : Below w5.heap.size w5 w6 := by first | exact hb6 | exact Below.trans (by repeat (first | exact Below.refl _ _ | refine Below.drew ?_ | refine below_drewN ?_ _ | refine Below.alloc ?_ (by (try simp only [World.size_alloc, World.size_drew, size_drewN, World.size_setCell]); omega) _ | refine Below.setCell ?_ (by (try dsimp only); omega) _)) (hb6.mono (by (try simp only [World.size_alloc, World.size_drew, size_drewN, World.size_setCell]); omega))
    have f43 := later hB6 f28
    have f44 := later hB6 f29
    have f45 := later hB6 f30
    have f46 := later hB6 f31
    have f47 := later hB6 f32
    have f48 := later hB6 f33
    have f49 := later hB6 f34
    have f50 := later hB6 f35
    have f51 := later hB6 f36
    have f52 := later hB6 f37
    have l53 : w1.heap.size < w6.heap.size := World.block_lt_of_cell? _ _ f43
    have l54 : w1.heap.size + 1 < w6.heap.size := World.block_lt_of_cell? _ _ f45
    have l55 : w1.heap.size + 2 < w6.heap.size := World.block_lt_of_cell? _ _ f47
    have l56 : w4.heap.size < w6.heap.size := World.block_lt_of_cell? _ _ f49
    have l57 : w4.heap.size + 1 < w6.heap.size := World.block_lt_of_cell? _ _ f51
    have hW6 := bseq hB1 (bseq hB2 (bseq hB3 (bseq hB4 (bseq hB5 (hB6)))))
    have hZ6 := hW6.size
    go_wp2_with fail
    refine (iCmp_any _ _ _ _ _).mono ?_
    rintro en w7 ⟨rfl, hb7⟩
    have hB7 : Below w6.heap.size w6 w7 := by first | exact hb7 | exact Below.trans (by repeat (first | exact Below.refl _ _ | refine Below.drew ?_ | refine below_drewN ?_ _ | refine Below.alloc ?_ (by (try simp only [World.size_alloc, World.size_drew, size_drewN, World.size_setCell]); omega) _ | refine Below.setCell ?_ (by (try dsimp only); omega) _)) (hb7.mono (by (try simp only [World.size_alloc, World.size_drew, size_drewN, World.size_setCell]); omega))
    have f58 := later hB7 f43
    have f59 := later hB7 f44
    have f60 := later hB7 f45
    have f61 := later hB7 f46
    have f62 := later hB7 f47
    have f63 := later hB7 f48
    have f64 := later hB7 f49
    have f65 := later hB7 f50
    have f66 := later hB7 f51
    have f67 := later hB7 f52
    have l68 : w1.heap.size < w7.heap.size := World.block_lt_of_cell? _ _ f58
    have l69 : w1.heap.size + 1 < w7.heap.size := World.block_lt_of_cell? _ _ f60
    have l70 : w1.heap.size + 2 < w7.heap.size := World.block_lt_of_cell? _ _ f62
    have l71 : w4.heap.size < w7.heap.size := World.block_lt_of_cell? _ _ f64
    have l72 : w4.heap.size + 1 < w7.heap.size := World.block_lt_of_cell? _ _ f66
    have hW7 := bseq hB1 (bseq hB2 (bseq hB3 (bseq hB4 (bseq hB5 (bseq hB6 (hB7))))))
    have hZ7 := hW7.size
    rw [cmp_flip a b d e, cmp_code a b d e]
    have kr := cmp_rng a b d e
    have HK : Hid (sideCode x1 y1 x2 y2 x3 y3 = 0 → sideOk x1 y1 x2 y2 x3 y3 = true) := side_ok
    have HF : Hid (sideOk x1 y1 x2 y2 x3 y3 = true → sideVal x1 y1 (-x2) (-y2) x3 y3 = - sideVal x1 y1 x2 y2 x3 y3 ∧ sideCode x1 y1 (-x2) (-y2) x3 y3 = 0) := side_flip
    have HB : Hid (sideOk x1 y1 x2 y2 x3 y3 = true → (-1000 ≤ x2 ∧ x2 ≤ 1000) ∧ (-1000 ≤ y2 ∧ y2 ≤ 1000)) := fun h => isBear_bd (side_bd h).2.1
    have sr := side_rng x1 y1 x2 y2 x3 y3
    generalize sideVal x1 y1 x2 y2 x3 y3 = k at HF sr ⊢
    generalize hcode : sideCode x1 y1 x2 y2 x3 y3 = bad at HK ⊢
    clear hcode
    generalize cmpVal a b d e = cv at kr ⊢
    generalize cmpCode a b d e = cc
    have hcv : IntKind.i64.wrap (-cv) = -cv := (by rw [w64]; exact w64id _ (by omega))
    have hcv2 : wrap64 (-cv) = -cv := w64id _ (by omega)
    have hkv2 : wrap64 (-k) = -k := w64id _ (by omega)
    clear kr sr
    go_upto_region 10 with fail
    have HTS : Hid (∀ X : World, Below w7.heap.size w7 X → X.cell? ⟨w4.heap.size, 0, none⟩ = some (.int .i64 a) ∧ X.cell? ⟨w4.heap.size, 1, none⟩ = some (.int .i64 b)) := fun X hB => ⟨later hB f64, later hB f65⟩
    have HB0 : Hid (Below w7.heap.size w7 w7) := Below.refl _ _
    (try have n73 : ¬ w1.heap.size = w4.heap.size := (by omega))
    (try have n74 : ¬ w1.heap.size = w4.heap.size + 1 := (by omega))
    (try have n75 : ¬ w1.heap.size + 1 = w4.heap.size := (by omega))
    (try have n76 : ¬ w1.heap.size + 1 = w4.heap.size + 1 := (by omega))
    (try have n77 : ¬ w1.heap.size = w4.heap.size := (by omega))
    (try have n78 : ¬ w1.heap.size + 2 = w4.heap.size := (by omega))
    (try have n79 : ¬ w1.heap.size + 2 = w4.heap.size + 1 := (by omega))
    (try have n80 : ¬ w1.heap.size + 1 = w4.heap.size := (by omega))
    (try have n81 : ¬ w4.heap.size = w1.heap.size := (by omega))
    (try have n82 : ¬ w4.heap.size = w1.heap.size + 1 := (by omega))
    (try have n83 : ¬ w4.heap.size = w1.heap.size + 2 := (by omega))
    (try have n84 : ¬ w4.heap.size + 1 = w1.heap.size := (by omega))
    (try have n85 : ¬ w4.heap.size + 1 = w1.heap.size + 1 := (by omega))
    (try have n86 : ¬ w4.heap.size = w1.heap.size := (by omega))
    (try have n87 : ¬ w4.heap.size + 1 = w1.heap.size + 2 := (by omega))
    (try have n88 : ¬ w4.heap.size = w1.heap.size + 1 := (by omega))
    go_region_held3 (fun w9 => w9.cell? ⟨w4.heap.size, 0, none⟩ = some (.int .i64 a) ∧ w9.cell? ⟨w4.heap.size, 1, none⟩ = some (.int .i64 b)) (first | with_reducible assumption | (focus (refine HTS.out _ ?_; (repeat (first | assumption | exact Below.refl _ _ | refine Below.drew ?_ | refine below_drewN ?_ _ | (refine Below.alloc ?_ ?_ _; rotate_left; ((try simp only [World.size_alloc, World.size_drew, size_drewN, World.size_setCell]); omega)) | (refine Below.setCell ?_ ?_ _; rotate_left; ((try dsimp only); omega)))); done)) | go_keep) (first | (go_at_call 24; refine (iBearing_any _ _ _).mono ?_; rintro en wx ⟨rfl, hb⟩; have hB9 : Below w7.heap.size w7 wx := Below.trans (b := _) (by first | assumption | (repeat (first | assumption | exact Below.refl _ _ | refine Below.drew ?_ | refine below_drewN ?_ _ | refine Below.alloc ?_ (by (try simp only [World.size_alloc, World.size_drew, size_drewN, World.size_setCell]); omega) _ | refine Below.setCell ?_ (by (try dsimp only); omega) _))) (hb.mono (by (try simp only [World.size_alloc, World.size_drew, size_drewN, World.size_setCell]); omega)); have hz9 := hB9.size; clear hb; have r0 : wx.cell? ⟨w1.heap.size, 0, none⟩ = some (.int .i64 x1) := later hB9 f58; have r1 : wx.cell? ⟨w1.heap.size, 1, none⟩ = some (.int .i64 y1) := later hB9 f59; have r2 : wx.cell? ⟨w1.heap.size + 1, 0, none⟩ = some (.int .i64 x2) := later hB9 f60; have r3 : wx.cell? ⟨w1.heap.size + 1, 1, none⟩ = some (.int .i64 y2) := later hB9 f61; have r4 : wx.cell? ⟨w1.heap.size + 2, 0, none⟩ = some (.int .i64 x3) := later hB9 f62; have r5 : wx.cell? ⟨w1.heap.size + 2, 1, none⟩ = some (.int .i64 y3) := later hB9 f63; have r6 : wx.cell? ⟨w4.heap.size, 0, none⟩ = some (.int .i64 a) := later hB9 f64; have r7 : wx.cell? ⟨w4.heap.size, 1, none⟩ = some (.int .i64 b) := later hB9 f65; have r8 : wx.cell? ⟨w4.heap.size + 1, 0, none⟩ = some (.int .i64 d) := later hB9 f66; have r9 : wx.cell? ⟨w4.heap.size + 1, 1, none⟩ = some (.int .i64 e) := later hB9 f67) | (go_at_call 22; refine (sBearing_any _ _ _).mono ?_; rintro en wx ⟨rfl, hb⟩; have hB9 : Below w7.heap.size w7 wx := Below.trans (b := _) (by first | assumption | (repeat (first | assumption | exact Below.refl _ _ | refine Below.drew ?_ | refine below_drewN ?_ _ | refine Below.alloc ?_ (by (try simp only [World.size_alloc, World.size_drew, size_drewN, World.size_setCell]); omega) _ | refine Below.setCell ?_ (by (try dsimp only); omega) _))) (hb.mono (by (try simp only [World.size_alloc, World.size_drew, size_drewN, World.size_setCell]); omega)); have hz9 := hB9.size; clear hb; have r0 : wx.cell? ⟨w1.heap.size, 0, none⟩ = some (.int .i64 x1) := later hB9 f58; have r1 : wx.cell? ⟨w1.heap.size, 1, none⟩ = some (.int .i64 y1) := later hB9 f59; have r2 : wx.cell? ⟨w1.heap.size + 1, 0, none⟩ = some (.int .i64 x2) := later hB9 f60; have r3 : wx.cell? ⟨w1.heap.size + 1, 1, none⟩ = some (.int .i64 y2) := later hB9 f61; have r4 : wx.cell? ⟨w1.heap.size + 2, 0, none⟩ = some (.int .i64 x3) := later hB9 f62; have r5 : wx.cell? ⟨w1.heap.size + 2, 1, none⟩ = some (.int .i64 y3) := later hB9 f63; have r6 : wx.cell? ⟨w4.heap.size, 0, none⟩ = some (.int .i64 a) := later hB9 f64; have r7 : wx.cell? ⟨w4.heap.size, 1, none⟩ = some (.int .i64 b) := later hB9 f65; have r8 : wx.cell? ⟨w4.heap.size + 1, 0, none⟩ = some (.int .i64 d) := later hB9 f66; have r9 : wx.cell? ⟨w4.heap.size + 1, 1, none⟩ = some (.int .i64 e) := later hB9 f67))
    have hB8 : Below w7.heap.size w7 wx := (by assumption)
    have hW8 := bseq hB1 (bseq hB2 (bseq hB3 (bseq hB4 (bseq hB5 (bseq hB6 (bseq hB7 (hB8)))))))
    have hZ8 := hW8.size
    by_cases hbad : bad = 0
    · have hd : (bad != 0) = false := by simpa using hbad
      have ho := HK.out hbad
      obtain ⟨hf1, hf2⟩ := HF.out ho
      have hx := (HB.out ho).1; have hy := (HB.out ho).2
      have hwx : wrap64 (-x2) = -x2 := w64id _ (by omega)
      have hwy : wrap64 (-y2) = -y2 := w64id _ (by omega)
      clear hx hy ho hbad
      go_wp2_with fail
      rw [hwx, hwy]
      refine (iSide_any _ _ _ _ _ _ _).mono ?_
      rintro en w9 ⟨rfl, hb9⟩
      have hB9 : Below wx.heap.size wx w9 := by first | exact hb9 | exact Below.trans (by repeat (first | exact Below.refl _ _ | refine Below.drew ?_ | refine below_drewN ?_ _ | refine Below.alloc ?_ (by (try simp only [World.size_alloc, World.size_drew, size_drewN, World.size_setCell]); omega) _ | refine Below.setCell ?_ (by (try dsimp only); omega) _)) (hb9.mono (by (try simp only [World.size_alloc, World.size_drew, size_drewN, World.size_setCell]); omega))
      have f89 := later hB9 r0
      have f90 := later hB9 r1
      have f91 := later hB9 r2
      have f92 := later hB9 r3
      have f93 := later hB9 r4
      have f94 := later hB9 r5
      have f95 := later hB9 r6
      have f96 := later hB9 r7
      have f97 := later hB9 r8
      have f98 := later hB9 r9
      have l99 : w1.heap.size < w9.heap.size := World.block_lt_of_cell? _ _ f89
      have l100 : w1.heap.size + 1 < w9.heap.size := World.block_lt_of_cell? _ _ f91
      have l101 : w1.heap.size + 2 < w9.heap.size := World.block_lt_of_cell? _ _ f93
      have l102 : w4.heap.size < w9.heap.size := World.block_lt_of_cell? _ _ f95
      have l103 : w4.heap.size + 1 < w9.heap.size := World.block_lt_of_cell? _ _ f97
      have hW9 := bseq hB1 (bseq hB2 (bseq hB3 (bseq hB4 (bseq hB5 (bseq hB6 (bseq hB7 (bseq hB8 (hB9))))))))
      have hZ9 := hW9.size
      rw [hf1, hf2]
      go_wp2
      go_ret
      exact ⟨rfl, (by first | exact hW9 | (have hx := hW9; go_grown))⟩
    · have hd : (bad != 0) = true := by simpa using hbad
      clear hbad
      go_wp2
      go_ret
      exact ⟨rfl, (by first | exact hW8 | (have hx := hW8; go_grown))⟩
end Go.Proofs.Ytoccglmlpobeeaa
