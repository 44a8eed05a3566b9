/- walks: ClosestSquare, the program; ratios of the reference -/
import Derived.Test.YtoccglmlpobeeaaPlainC
import Derived.Test.YtoccglmlpobeeaaW13
import Derived.Deep.DeepCutAuto
set_option linter.unusedVariables false
set_option linter.unusedSimpArgs false
namespace Go.Proofs.Ytoccglmlpobeeaa
open Go.RowKit

set_option maxHeartbeats 16000000 in
theorem iCSYes_any (p q r s t u v z a b c d : Int) (w : World) (h1 : trk2 p q r s t u v z = true) (HA : Hid (t - p = a)) (HB : Hid (u - q = b)) (HC : Hid (v - r = c)) (HD : Hid (z - s = d))
    (ba : -200000 ≤ a ∧ a ≤ 200000) (bb : -200000 ≤ b ∧ b ≤ 200000) (bc : -2000 ≤ c ∧ c ≤ 2000) (bd : -2000 ≤ d ∧ d ≤ 2000) :
    Calls Try.prog 59 #[.agg #[.int .i64 p, .int .i64 q, .int .i64 r, .int .i64 s], .agg #[.int .i64 t, .int .i64 u, .int .i64 v, .int .i64 z]] w fun en w9 => en = .returned (.tuple #[.agg #[.int .i64 (csX a b c d), .int .i64 (csY a b c d)], .int .i64 (csC a b c d)]) ∧ Below w.heap.size w w9 := by
  have d1 := (dot_bd ba bb (c := c) (d := d) (by omega) (by omega)).2
  have d2 := (dot_bd ba bb ba bb).2
  rcases Int.lt_or_le (dot a b c d) 0 with t0 | t0
  · have nb := norm_bd bc bd (dot_nz t0)
    have cb := (cross_bd ba bb bc bd).2
    have sb := mul_bd (a := cross a b c d) (b := cross a b c d) (A := 800000000) (B := 800000000) cb cb
    have HV : Hid (csX a b c d = ratX (cross a b c d * cross a b c d) (dot c d c d) ∧ csY a b c d = ratY (cross a b c d * cross a b c d) (dot c d c d) ∧ csC a b c d = ratC (cross a b c d * cross a b c d) (dot c d c d) 3) := by
      show _ ∧ _ ∧ _; unfold csX csY csC csN csD; rw [if_neg (by omega), if_neg (by omega)]; exact ⟨rfl, rfl, rfl⟩
    have ew : IntKind.i64.wrap (cross a b c d * cross a b c d) = cross a b c d * cross a b c d := IntWalk.i64_in _ (by omega)
    go_enter Try.func59, Try.ntmps59
    go_wp2_with fail
    refine (rel4_any _ _ _ _ _ _ _ _ a b c d _ (by assumption) HA HB HC HD).mono ?_
    rintro en w1 ⟨rfl, hb1⟩
    have hB1 : Below w.heap.size w w1 := by first | exact hb1 | exact Below.trans (by repeat (first | exact Below.refl _ _ | refine Below.drew ?_ | refine below_drewN ?_ _ | refine Below.alloc ?_ (by (try simp only [World.size_alloc, World.size_drew, size_drewN, World.size_setCell]); omega) _ | refine Below.setCell ?_ (by (try dsimp only); omega) _)) (hb1.mono (by (try simp only [World.size_alloc, World.size_drew, size_drewN, World.size_setCell]); omega))
    have f1 : w1.cell? ⟨w.heap.size + 2, 0, none⟩ = some (.int .i64 0) := (hb1.cell (p := ⟨w.heap.size + 2, 0, none⟩) (by first | (go_size; done) | (simp; done) | (simp <;> omega))).trans (by go_simp)
    have z1 : w1.frozen? ⟨w.heap.size + 2, 0, none⟩ = false := (hb1.frozen (p := ⟨w.heap.size + 2, 0, none⟩) (by first | (go_size; done) | (simp; done) | (simp <;> omega))).trans (by go_simp)
    have f2 : w1.cell? ⟨w.heap.size + 2, 1, none⟩ = some (.int .i64 0) := (hb1.cell (p := ⟨w.heap.size + 2, 1, none⟩) (by first | (go_size; done) | (simp; done) | (simp <;> omega))).trans (by go_simp)
    have z2 : w1.frozen? ⟨w.heap.size + 2, 1, none⟩ = false := (hb1.frozen (p := ⟨w.heap.size + 2, 1, none⟩) (by first | (go_size; done) | (simp; done) | (simp <;> omega))).trans (by go_simp)
    have l3 : w.heap.size + 2 < w1.heap.size := World.block_lt_of_cell? _ _ f1
    have hZ1 := hB1.size
    go_upto_region 2 with fail
    have hB2 : Below w1.heap.size w1 ((w1.alloc (Obj.cells #[Value.int .i64 a, Value.int .i64 b] 25)).alloc (Obj.cells #[Value.int .i64 c, Value.int .i64 d] 25)) := by repeat (first | exact Below.refl _ _ | refine Below.drew ?_ | refine below_drewN ?_ _ | refine Below.alloc ?_ (by (try simp only [World.size_alloc, World.size_drew, size_drewN, World.size_setCell]); omega) _ | refine Below.setCell ?_ (by (try dsimp only); omega) _)
    have f4 := later hB2 f1
    have z4 := laterF hB2 f1 z1
    have f5 := later hB2 f2
    have z5 := laterF hB2 f2 z2
    have f6 : ((w1.alloc (Obj.cells #[Value.int .i64 a, Value.int .i64 b] 25)).alloc (Obj.cells #[Value.int .i64 c, Value.int .i64 d] 25)).cell? ⟨w1.heap.size, 0, none⟩ = some (.int .i64 a) := by go_simp
    have f7 : ((w1.alloc (Obj.cells #[Value.int .i64 a, Value.int .i64 b] 25)).alloc (Obj.cells #[Value.int .i64 c, Value.int .i64 d] 25)).cell? ⟨w1.heap.size, 1, none⟩ = some (.int .i64 b) := by go_simp
    have f8 : ((w1.alloc (Obj.cells #[Value.int .i64 a, Value.int .i64 b] 25)).alloc (Obj.cells #[Value.int .i64 c, Value.int .i64 d] 25)).cell? ⟨w1.heap.size + 1, 0, none⟩ = some (.int .i64 c) := by go_simp
    have f9 : ((w1.alloc (Obj.cells #[Value.int .i64 a, Value.int .i64 b] 25)).alloc (Obj.cells #[Value.int .i64 c, Value.int .i64 d] 25)).cell? ⟨w1.heap.size + 1, 1, none⟩ = some (.int .i64 d) := by go_simp
    generalize ((w1.alloc (Obj.cells #[Value.int .i64 a, Value.int .i64 b] 25)).alloc (Obj.cells #[Value.int .i64 c, Value.int .i64 d] 25)) = w2 at hB2 f4 z4 f5 z5 f6 f7 f8 f9 ⊢
    have l10 : w.heap.size + 2 < w2.heap.size := World.block_lt_of_cell? _ _ f4
    have l11 : w1.heap.size < w2.heap.size := World.block_lt_of_cell? _ _ f6
    have l12 : w1.heap.size + 1 < w2.heap.size := World.block_lt_of_cell? _ _ f8
    have hW2 := bseq hB1 (hB2)
    have hZ2 := hW2.size
    go_wp2_with fail
    refine (iDot_any _ _ _ _ _).mono ?_
    rintro en w3 ⟨rfl, hb3⟩
    have hB3 : Below w2.heap.size w2 w3 := by first | exact hb3 | exact Below.trans (by repeat (first | exact Below.refl _ _ | refine Below.drew ?_ | refine below_drewN ?_ _ | refine Below.alloc ?_ (by (try simp only [World.size_alloc, World.size_drew, size_drewN, World.size_setCell]); omega) _ | refine Below.setCell ?_ (by (try dsimp only); omega) _)) (hb3.mono (by (try simp only [World.size_alloc, World.size_drew, size_drewN, World.size_setCell]); omega))
    have f13 := later hB3 f4
    have z13 := laterF hB3 f4 z4
    have f14 := later hB3 f5
    have z14 := laterF hB3 f5 z5
    have f15 := later hB3 f6
    have f16 := later hB3 f7
    have f17 := later hB3 f8
    have f18 := later hB3 f9
    have l19 : w.heap.size + 2 < w3.heap.size := World.block_lt_of_cell? _ _ f13
    have l20 : w1.heap.size < w3.heap.size := World.block_lt_of_cell? _ _ f15
    have l21 : w1.heap.size + 1 < w3.heap.size := World.block_lt_of_cell? _ _ f17
    have hW3 := bseq hB1 (bseq hB2 (hB3))
    have hZ3 := hW3.size
    go_wp2_with fail
    have HTS : Hid (∀ X : World, Below w3.heap.size w3 X → X.cell? ⟨w1.heap.size, 0, none⟩ = some (.int .i64 a) ∧ X.cell? ⟨w1.heap.size, 1, none⟩ = some (.int .i64 b) ∧ X.cell? ⟨w1.heap.size + 1, 0, none⟩ = some (.int .i64 c) ∧ X.cell? ⟨w1.heap.size + 1, 1, none⟩ = some (.int .i64 d)) := fun X hB => ⟨later hB f15, later hB f16, later hB f17, later hB f18⟩
    have HB0 : Hid (Below w3.heap.size w3 w3) := Below.refl _ _
    (try have n22 : ¬ w.heap.size + 2 = w1.heap.size := (by omega))
    (try have n23 : ¬ w.heap.size + 2 = w1.heap.size + 1 := (by omega))
    (try have n24 : ¬ w.heap.size + 1 = w1.heap.size := (by omega))
    (try have n25 : ¬ w1.heap.size = w.heap.size + 2 := (by omega))
    (try have n26 : ¬ w1.heap.size + 1 = w.heap.size + 2 := (by omega))
    (try have n27 : ¬ w1.heap.size = w.heap.size + 1 := (by omega))
    go_region_held3 (fun w9 => w9.cell? ⟨w1.heap.size, 0, none⟩ = some (.int .i64 a) ∧ w9.cell? ⟨w1.heap.size, 1, none⟩ = some (.int .i64 b) ∧ w9.cell? ⟨w1.heap.size + 1, 0, none⟩ = some (.int .i64 c) ∧ w9.cell? ⟨w1.heap.size + 1, 1, none⟩ = some (.int .i64 d)) (first | with_reducible assumption | (focus (refine HTS.out _ ?_; (repeat (first | assumption | exact Below.refl _ _ | refine Below.drew ?_ | refine below_drewN ?_ _ | (refine Below.alloc ?_ ?_ _; rotate_left; ((try simp only [World.size_alloc, World.size_drew, size_drewN, World.size_setCell]); omega)) | (refine Below.setCell ?_ ?_ _; rotate_left; ((try dsimp only); omega)))); done)) | go_keep) (first | (go_at_call 86; refine (iCross_any _ _ _ _ _).mono ?_; rintro en wx ⟨rfl, hb⟩; have hB9 : Below w3.heap.size w3 wx := Below.trans (b := _) (by first | assumption | (repeat (first | assumption | exact Below.refl _ _ | refine Below.drew ?_ | refine below_drewN ?_ _ | refine Below.alloc ?_ (by (try simp only [World.size_alloc, World.size_drew, size_drewN, World.size_setCell]); omega) _ | refine Below.setCell ?_ (by (try dsimp only); omega) _))) (hb.mono (by (try simp only [World.size_alloc, World.size_drew, size_drewN, World.size_setCell]); omega)); have hz9 := hB9.size; clear hb; have r0 : wx.cell? ⟨w.heap.size + 2, 0, none⟩ = some (.int .i64 0) := later hB9 f13; have rz0 : wx.frozen? ⟨w.heap.size + 2, 0, none⟩ = false := laterF hB9 f13 z13; have r1 : wx.cell? ⟨w.heap.size + 2, 1, none⟩ = some (.int .i64 0) := later hB9 f14; have rz1 : wx.frozen? ⟨w.heap.size + 2, 1, none⟩ = false := laterF hB9 f14 z14; have r2 : wx.cell? ⟨w1.heap.size, 0, none⟩ = some (.int .i64 a) := later hB9 f15; have r3 : wx.cell? ⟨w1.heap.size, 1, none⟩ = some (.int .i64 b) := later hB9 f16; have r4 : wx.cell? ⟨w1.heap.size + 1, 0, none⟩ = some (.int .i64 c) := later hB9 f17; have r5 : wx.cell? ⟨w1.heap.size + 1, 1, none⟩ = some (.int .i64 d) := later hB9 f18) | (go_at_call 95; refine (iDot_any _ _ _ _ _).mono ?_; rintro en wx ⟨rfl, hb⟩; have hB9 : Below w3.heap.size w3 wx := Below.trans (b := _) (by first | assumption | (repeat (first | assumption | exact Below.refl _ _ | refine Below.drew ?_ | refine below_drewN ?_ _ | refine Below.alloc ?_ (by (try simp only [World.size_alloc, World.size_drew, size_drewN, World.size_setCell]); omega) _ | refine Below.setCell ?_ (by (try dsimp only); omega) _))) (hb.mono (by (try simp only [World.size_alloc, World.size_drew, size_drewN, World.size_setCell]); omega)); have hz9 := hB9.size; clear hb; have r0 : wx.cell? ⟨w.heap.size + 2, 0, none⟩ = some (.int .i64 0) := later hB9 f13; have rz0 : wx.frozen? ⟨w.heap.size + 2, 0, none⟩ = false := laterF hB9 f13 z13; have r1 : wx.cell? ⟨w.heap.size + 2, 1, none⟩ = some (.int .i64 0) := later hB9 f14; have rz1 : wx.frozen? ⟨w.heap.size + 2, 1, none⟩ = false := laterF hB9 f14 z14; have r2 : wx.cell? ⟨w1.heap.size, 0, none⟩ = some (.int .i64 a) := later hB9 f15; have r3 : wx.cell? ⟨w1.heap.size, 1, none⟩ = some (.int .i64 b) := later hB9 f16; have r4 : wx.cell? ⟨w1.heap.size + 1, 0, none⟩ = some (.int .i64 c) := later hB9 f17; have r5 : wx.cell? ⟨w1.heap.size + 1, 1, none⟩ = some (.int .i64 d) := later hB9 f18) | (go_at_call 103; refine (iRatio_any _ _ _ _ (by omega) (by omega) (by omega)).mono ?_; rintro en wx ⟨rfl, hb⟩; have hB9 : Below w3.heap.size w3 wx := Below.trans (b := _) (by first | assumption | (repeat (first | assumption | exact Below.refl _ _ | refine Below.drew ?_ | refine below_drewN ?_ _ | refine Below.alloc ?_ (by (try simp only [World.size_alloc, World.size_drew, size_drewN, World.size_setCell]); omega) _ | refine Below.setCell ?_ (by (try dsimp only); omega) _))) (hb.mono (by (try simp only [World.size_alloc, World.size_drew, size_drewN, World.size_setCell]); omega)); have hz9 := hB9.size; clear hb; have r0 : wx.cell? ⟨w.heap.size + 2, 0, none⟩ = some (.int .i64 0) := later hB9 f13; have rz0 : wx.frozen? ⟨w.heap.size + 2, 0, none⟩ = false := laterF hB9 f13 z13; have r1 : wx.cell? ⟨w.heap.size + 2, 1, none⟩ = some (.int .i64 0) := later hB9 f14; have rz1 : wx.frozen? ⟨w.heap.size + 2, 1, none⟩ = false := laterF hB9 f14 z14; have r2 : wx.cell? ⟨w1.heap.size, 0, none⟩ = some (.int .i64 a) := later hB9 f15; have r3 : wx.cell? ⟨w1.heap.size, 1, none⟩ = some (.int .i64 b) := later hB9 f16; have r4 : wx.cell? ⟨w1.heap.size + 1, 0, none⟩ = some (.int .i64 c) := later hB9 f17; have r5 : wx.cell? ⟨w1.heap.size + 1, 1, none⟩ = some (.int .i64 d) := later hB9 f18))
    all_goals (have hB4 : Below w3.heap.size w3 wx := (by assumption); have hW4 := bseq hB1 (bseq hB2 (bseq hB3 (hB4))); have hZ4 := hW4.size; go_wp2; refine bodyPost_ret (v := .tuple #[.agg #[.int .i64 (csX a b c d), .int .i64 (csY a b c d)], .int .i64 (csC a b c d)]) (by rw [HV.out.1, HV.out.2.1, HV.out.2.2]; simp [results, Try.results59, go_sem, r0, r1, r2, r3, r4, r5, rz0, rz1, l19, Nat.ne_of_lt l19, l20, Nat.ne_of_lt l20, l21, Nat.ne_of_lt l21]) rfl ⟨rfl, by have hx := hW4; first | (go_grown; done) | (repeat (first | exact hx | exact Below.refl _ _ | refine Below.drew ?_ | refine below_drewN ?_ _ | refine Below.alloc ?_ (by (try simp only [World.size_alloc, World.size_drew, size_drewN, World.size_setCell]); omega) _ | refine Below.setCell ?_ (by (try dsimp only); omega) _); done) | exact below_drewN (by go_grown) _⟩)
  · have HV : Hid (csX a b c d = ratX (dot a b a b) 1 ∧ csY a b c d = ratY (dot a b a b) 1 ∧ csC a b c d = ratC (dot a b a b) 1 3) := by
      show _ ∧ _ ∧ _; unfold csX csY csC csN csD; rw [if_pos t0, if_pos t0]; exact ⟨rfl, rfl, rfl⟩
    go_enter Try.func59, Try.ntmps59
    go_wp2_with fail
    refine (rel4_any _ _ _ _ _ _ _ _ a b c d _ (by assumption) HA HB HC HD).mono ?_
    rintro en w1 ⟨rfl, hb1⟩
    have hB1 : Below w.heap.size w w1 := by first | exact hb1 | exact Below.trans (by repeat (first | exact Below.refl _ _ | refine Below.drew ?_ | refine below_drewN ?_ _ | refine Below.alloc ?_ (by (try simp only [World.size_alloc, World.size_drew, size_drewN, World.size_setCell]); omega) _ | refine Below.setCell ?_ (by (try dsimp only); omega) _)) (hb1.mono (by (try simp only [World.size_alloc, World.size_drew, size_drewN, World.size_setCell]); omega))
    have f1 : w1.cell? ⟨w.heap.size + 2, 0, none⟩ = some (.int .i64 0) := (hb1.cell (p := ⟨w.heap.size + 2, 0, none⟩) (by first | (go_size; done) | (simp; done) | (simp <;> omega))).trans (by go_simp)
    have z1 : w1.frozen? ⟨w.heap.size + 2, 0, none⟩ = false := (hb1.frozen (p := ⟨w.heap.size + 2, 0, none⟩) (by first | (go_size; done) | (simp; done) | (simp <;> omega))).trans (by go_simp)
    have f2 : w1.cell? ⟨w.heap.size + 2, 1, none⟩ = some (.int .i64 0) := (hb1.cell (p := ⟨w.heap.size + 2, 1, none⟩) (by first | (go_size; done) | (simp; done) | (simp <;> omega))).trans (by go_simp)
    have z2 : w1.frozen? ⟨w.heap.size + 2, 1, none⟩ = false := (hb1.frozen (p := ⟨w.heap.size + 2, 1, none⟩) (by first | (go_size; done) | (simp; done) | (simp <;> omega))).trans (by go_simp)
    have l3 : w.heap.size + 2 < w1.heap.size := World.block_lt_of_cell? _ _ f1
    have hZ1 := hB1.size
    go_upto_region 2 with fail
    have hB2 : Below w1.heap.size w1 ((w1.alloc (Obj.cells #[Value.int .i64 a, Value.int .i64 b] 25)).alloc (Obj.cells #[Value.int .i64 c, Value.int .i64 d] 25)) := by repeat (first | exact Below.refl _ _ | refine Below.drew ?_ | refine below_drewN ?_ _ | refine Below.alloc ?_ (by (try simp only [World.size_alloc, World.size_drew, size_drewN, World.size_setCell]); omega) _ | refine Below.setCell ?_ (by (try dsimp only); omega) _)
    have f4 := later hB2 f1
    have z4 := laterF hB2 f1 z1
    have f5 := later hB2 f2
    have z5 := laterF hB2 f2 z2
    have f6 : ((w1.alloc (Obj.cells #[Value.int .i64 a, Value.int .i64 b] 25)).alloc (Obj.cells #[Value.int .i64 c, Value.int .i64 d] 25)).cell? ⟨w1.heap.size, 0, none⟩ = some (.int .i64 a) := by go_simp
    have f7 : ((w1.alloc (Obj.cells #[Value.int .i64 a, Value.int .i64 b] 25)).alloc (Obj.cells #[Value.int .i64 c, Value.int .i64 d] 25)).cell? ⟨w1.heap.size, 1, none⟩ = some (.int .i64 b) := by go_simp
    have f8 : ((w1.alloc (Obj.cells #[Value.int .i64 a, Value.int .i64 b] 25)).alloc (Obj.cells #[Value.int .i64 c, Value.int .i64 d] 25)).cell? ⟨w1.heap.size + 1, 0, none⟩ = some (.int .i64 c) := by go_simp
    have f9 : ((w1.alloc (Obj.cells #[Value.int .i64 a, Value.int .i64 b] 25)).alloc (Obj.cells #[Value.int .i64 c, Value.int .i64 d] 25)).cell? ⟨w1.heap.size + 1, 1, none⟩ = some (.int .i64 d) := by go_simp
    generalize ((w1.alloc (Obj.cells #[Value.int .i64 a, Value.int .i64 b] 25)).alloc (Obj.cells #[Value.int .i64 c, Value.int .i64 d] 25)) = w2 at hB2 f4 z4 f5 z5 f6 f7 f8 f9 ⊢
    have l10 : w.heap.size + 2 < w2.heap.size := World.block_lt_of_cell? _ _ f4
    have l11 : w1.heap.size < w2.heap.size := World.block_lt_of_cell? _ _ f6
    have l12 : w1.heap.size + 1 < w2.heap.size := World.block_lt_of_cell? _ _ f8
    have hW2 := bseq hB1 (hB2)
    have hZ2 := hW2.size
    go_wp2_with fail
    refine (iDot_any _ _ _ _ _).mono ?_
    rintro en w3 ⟨rfl, hb3⟩
    have hB3 : Below w2.heap.size w2 w3 := by first | exact hb3 | exact Below.trans (by repeat (first | exact Below.refl _ _ | refine Below.drew ?_ | refine below_drewN ?_ _ | refine Below.alloc ?_ (by (try simp only [World.size_alloc, World.size_drew, size_drewN, World.size_setCell]); omega) _ | refine Below.setCell ?_ (by (try dsimp only); omega) _)) (hb3.mono (by (try simp only [World.size_alloc, World.size_drew, size_drewN, World.size_setCell]); omega))
    have f13 := later hB3 f4
    have z13 := laterF hB3 f4 z4
    have f14 := later hB3 f5
    have z14 := laterF hB3 f5 z5
    have f15 := later hB3 f6
    have f16 := later hB3 f7
    have f17 := later hB3 f8
    have f18 := later hB3 f9
    have l19 : w.heap.size + 2 < w3.heap.size := World.block_lt_of_cell? _ _ f13
    have l20 : w1.heap.size < w3.heap.size := World.block_lt_of_cell? _ _ f15
    have l21 : w1.heap.size + 1 < w3.heap.size := World.block_lt_of_cell? _ _ f17
    have hW3 := bseq hB1 (bseq hB2 (hB3))
    have hZ3 := hW3.size
    go_wp2_with fail
    refine (iDot_any _ _ _ _ _).mono ?_
    rintro en w4 ⟨rfl, hb4⟩
    have hB4 : Below w3.heap.size w3 w4 := by first | exact hb4 | exact Below.trans (by repeat (first | exact Below.refl _ _ | refine Below.drew ?_ | refine below_drewN ?_ _ | refine Below.alloc ?_ (by (try simp only [World.size_alloc, World.size_drew, size_drewN, World.size_setCell]); omega) _ | refine Below.setCell ?_ (by (try dsimp only); omega) _)) (hb4.mono (by (try simp only [World.size_alloc, World.size_drew, size_drewN, World.size_setCell]); omega))
    have f22 := later hB4 f13
    have z22 := laterF hB4 f13 z13
    have f23 := later hB4 f14
    have z23 := laterF hB4 f14 z14
    have f24 := later hB4 f15
    have f25 := later hB4 f16
    have f26 := later hB4 f17
    have f27 := later hB4 f18
    have l28 : w.heap.size + 2 < w4.heap.size := World.block_lt_of_cell? _ _ f22
    have l29 : w1.heap.size < w4.heap.size := World.block_lt_of_cell? _ _ f24
    have l30 : w1.heap.size + 1 < w4.heap.size := World.block_lt_of_cell? _ _ f26
    have hW4 := bseq hB1 (bseq hB2 (bseq hB3 (hB4)))
    have hZ4 := hW4.size
    go_wp2_with fail
    refine (iRatio_any _ _ _ _ (by omega) (by omega) (by omega)).mono ?_
    rintro en w5 ⟨rfl, hb5⟩
    have hB5 : Below w4.heap.size w4 w5 := by first | exact hb5 | exact Below.trans (by repeat (first | exact Below.refl _ _ | refine Below.drew ?_ | refine below_drewN ?_ _ | refine Below.alloc ?_ (by (try simp only [World.size_alloc, World.size_drew, size_drewN, World.size_setCell]); omega) _ | refine Below.setCell ?_ (by (try dsimp only); omega) _)) (hb5.mono (by (try simp only [World.size_alloc, World.size_drew, size_drewN, World.size_setCell]); omega))
    have f31 := later hB5 f22
    have z31 := laterF hB5 f22 z22
    have f32 := later hB5 f23
    have z32 := laterF hB5 f23 z23
    have f33 := later hB5 f24
    have f34 := later hB5 f25
    have f35 := later hB5 f26
    have f36 := later hB5 f27
    have l37 : w.heap.size + 2 < w5.heap.size := World.block_lt_of_cell? _ _ f31
    have l38 : w1.heap.size < w5.heap.size := World.block_lt_of_cell? _ _ f33
    have l39 : w1.heap.size + 1 < w5.heap.size := World.block_lt_of_cell? _ _ f35
    have hW5 := bseq hB1 (bseq hB2 (bseq hB3 (bseq hB4 (hB5))))
    have hZ5 := hW5.size
    go_wp2
    refine bodyPost_ret (v := .tuple #[.agg #[.int .i64 (csX a b c d), .int .i64 (csY a b c d)], .int .i64 (csC a b c d)]) (by rw [HV.out.1, HV.out.2.1, HV.out.2.2]; simp [results, Try.results59, go_sem, f31, f32, f33, f34, f35, f36, z31, z32, l37, Nat.ne_of_lt l37, l38, Nat.ne_of_lt l38, l39, Nat.ne_of_lt l39]) rfl ⟨rfl, by have hx := hW5; first | (go_grown; done) | (repeat (first | exact hx | exact Below.refl _ _ | refine Below.drew ?_ | refine below_drewN ?_ _ | refine Below.alloc ?_ (by (try simp only [World.size_alloc, World.size_drew, size_drewN, World.size_setCell]); omega) _ | refine Below.setCell ?_ (by (try dsimp only); omega) _); done) | exact below_drewN (by go_grown) _⟩

set_option maxHeartbeats 8000000 in
theorem iCS_any (p q r s t u v z : Int) (w : World) :
    Calls Try.prog 59 #[.agg #[.int .i64 p, .int .i64 q, .int .i64 r, .int .i64 s], .agg #[.int .i64 t, .int .i64 u, .int .i64 v, .int .i64 z]] w fun en w9 => en = .returned (.tuple #[.agg #[.int .i64 (onTr csX 0 p q r s t u v z), .int .i64 (onTr csY 0 p q r s t u v z)], .int .i64 (onTr csC 1 p q r s t u v z)]) ∧ Below w.heap.size w w9 := by
  rcases Bool.eq_false_or_eq_true (trk2 p q r s t u v z) with h1 | h1
  · obtain ⟨a, b, c, d, HA, HB, HC, HD, ba, bb, bc, bd⟩ := diffs h1
    have HM : onTr csX 0 p q r s t u v z = csX a b c d ∧ onTr csY 0 p q r s t u v z = csY a b c d ∧ onTr csC 1 p q r s t u v z = csC a b c d := by rw [← HA.out, ← HB.out, ← HC.out, ← HD.out]; simp [onTr, h1]
    rw [HM.1, HM.2.1, HM.2.2]
    exact iCSYes_any p q r s t u v z a b c d w h1 HA HB HC HD ba bb bc bd
  · have HV : Hid (onTr csX 0 p q r s t u v z = 0 ∧ onTr csY 0 p q r s t u v z = 0 ∧ onTr csC 1 p q r s t u v z = 1) := by show _ ∧ _ ∧ _; simp [onTr, h1]
    go_enter Try.func59, Try.ntmps59
    go_wp2_with fail
    refine (relNo_any _ _ _ _ _ _ _ _ _ (by assumption)).mono ?_
    rintro en w1 ⟨rfl, hb1⟩
    have hB1 : Below w.heap.size w w1 := by first | exact hb1 | exact Below.trans (by repeat (first | exact Below.refl _ _ | refine Below.drew ?_ | refine below_drewN ?_ _ | refine Below.alloc ?_ (by (try simp only [World.size_alloc, World.size_drew, size_drewN, World.size_setCell]); omega) _ | refine Below.setCell ?_ (by (try dsimp only); omega) _)) (hb1.mono (by (try simp only [World.size_alloc, World.size_drew, size_drewN, World.size_setCell]); omega))
    have f1 : w1.cell? ⟨w.heap.size + 2, 0, none⟩ = some (.int .i64 0) := (hb1.cell (p := ⟨w.heap.size + 2, 0, none⟩) (by first | (go_size; done) | (simp; done) | (simp <;> omega))).trans (by go_simp)
    have z1 : w1.frozen? ⟨w.heap.size + 2, 0, none⟩ = false := (hb1.frozen (p := ⟨w.heap.size + 2, 0, none⟩) (by first | (go_size; done) | (simp; done) | (simp <;> omega))).trans (by go_simp)
    have f2 : w1.cell? ⟨w.heap.size + 2, 1, none⟩ = some (.int .i64 0) := (hb1.cell (p := ⟨w.heap.size + 2, 1, none⟩) (by first | (go_size; done) | (simp; done) | (simp <;> omega))).trans (by go_simp)
    have z2 : w1.frozen? ⟨w.heap.size + 2, 1, none⟩ = false := (hb1.frozen (p := ⟨w.heap.size + 2, 1, none⟩) (by first | (go_size; done) | (simp; done) | (simp <;> omega))).trans (by go_simp)
    have l3 : w.heap.size + 2 < w1.heap.size := World.block_lt_of_cell? _ _ f1
    have hZ1 := hB1.size
    go_upto_region 2 with fail
    have hB2 : Below w1.heap.size w1 ((w1.alloc (Obj.cells #[Value.int .i64 0, Value.int .i64 0] 25)).alloc (Obj.cells #[Value.int .i64 0, Value.int .i64 0] 25)) := by repeat (first | exact Below.refl _ _ | refine Below.drew ?_ | refine below_drewN ?_ _ | refine Below.alloc ?_ (by (try simp only [World.size_alloc, World.size_drew, size_drewN, World.size_setCell]); omega) _ | refine Below.setCell ?_ (by (try dsimp only); omega) _)
    have f4 := later hB2 f1
    have z4 := laterF hB2 f1 z1
    have f5 := later hB2 f2
    have z5 := laterF hB2 f2 z2
    generalize ((w1.alloc (Obj.cells #[Value.int .i64 0, Value.int .i64 0] 25)).alloc (Obj.cells #[Value.int .i64 0, Value.int .i64 0] 25)) = w2 at hB2 f4 z4 f5 z5 ⊢
    have l6 : w.heap.size + 2 < w2.heap.size := World.block_lt_of_cell? _ _ f4
    have hW2 := bseq hB1 (hB2)
    have hZ2 := hW2.size
    go_wp2
    refine bodyPost_ret (v := .tuple #[.agg #[.int .i64 (onTr csX 0 p q r s t u v z), .int .i64 (onTr csY 0 p q r s t u v z)], .int .i64 (onTr csC 1 p q r s t u v z)]) (by rw [HV.out.1, HV.out.2.1, HV.out.2.2]; simp [results, Try.results59, go_sem, f4, f5, z4, z5, l6, Nat.ne_of_lt l6]) rfl ⟨rfl, by have hx := hW2; first | (go_grown; done) | (repeat (first | exact hx | exact Below.refl _ _ | refine Below.drew ?_ | refine below_drewN ?_ _ | refine Below.alloc ?_ (by (try simp only [World.size_alloc, World.size_drew, size_drewN, World.size_setCell]); omega) _ | refine Below.setCell ?_ (by (try dsimp only); omega) _); done) | exact below_drewN (by go_grown) _⟩

set_option maxHeartbeats 4000000 in
theorem l12Ratio_any (n d : Int) (w : World) (hn : -1000000000000000000 ≤ n ∧ n ≤ 1000000000000000000) (hd : -1000000000000000000 ≤ d ∧ d ≤ 1000000000000000000) (hz : d ≠ 0) :
    Calls Try.prog 102 #[.int .i64 n, .int .i64 d] w fun en w9 => en = .returned (.tuple #[.agg #[.int .i64 (ratX n d), .int .i64 (ratY n d)], .int .i64 (ratC n d 3)]) ∧ Below w.heap.size w w9 := by
  rcases Bool.eq_false_or_eq_true (ratOk n d) with h | h
  · have HC : Hid (ratC n d 2 = 0) := by show _ = _; simp [ratC, h]
    have HV : Hid (ratC n d 3 = 0) := by show _ = _; simp [ratC, h]
    go_enter Try.func102, Try.ntmps102
    go_wp2_with fail
    refine (sMake_any _ _ _ (by omega) (by omega) (by omega)).mono ?_
    rintro en w1 ⟨rfl, hb1⟩
    have hB1 : Below w.heap.size w w1 := by first | exact hb1 | exact Below.trans (by repeat (first | exact Below.refl _ _ | refine Below.drew ?_ | refine below_drewN ?_ _ | refine Below.alloc ?_ (by (try simp only [World.size_alloc, World.size_drew, size_drewN, World.size_setCell]); omega) _ | refine Below.setCell ?_ (by (try dsimp only); omega) _)) (hb1.mono (by (try simp only [World.size_alloc, World.size_drew, size_drewN, World.size_setCell]); omega))
    have f1 : w1.cell? ⟨w.heap.size, 0, none⟩ = some (.int .i64 0) := (hb1.cell (p := ⟨w.heap.size, 0, none⟩) (by first | (go_size; done) | (simp; done) | (simp <;> omega))).trans (by go_simp)
    have z1 : w1.frozen? ⟨w.heap.size, 0, none⟩ = false := (hb1.frozen (p := ⟨w.heap.size, 0, none⟩) (by first | (go_size; done) | (simp; done) | (simp <;> omega))).trans (by go_simp)
    have f2 : w1.cell? ⟨w.heap.size, 1, none⟩ = some (.int .i64 0) := (hb1.cell (p := ⟨w.heap.size, 1, none⟩) (by first | (go_size; done) | (simp; done) | (simp <;> omega))).trans (by go_simp)
    have z2 : w1.frozen? ⟨w.heap.size, 1, none⟩ = false := (hb1.frozen (p := ⟨w.heap.size, 1, none⟩) (by first | (go_size; done) | (simp; done) | (simp <;> omega))).trans (by go_simp)
    have l3 : w.heap.size < w1.heap.size := World.block_lt_of_cell? _ _ f1
    have hZ1 := hB1.size
    rw [HC.out]
    go_upto_region 2 with fail
    have hB2 : Below w1.heap.size w1 (w1.alloc (Obj.cells #[Value.int .i64 (ratX n d), Value.int .i64 (ratY n d)] 73)) := by repeat (first | exact Below.refl _ _ | refine Below.drew ?_ | refine below_drewN ?_ _ | refine Below.alloc ?_ (by (try simp only [World.size_alloc, World.size_drew, size_drewN, World.size_setCell]); omega) _ | refine Below.setCell ?_ (by (try dsimp only); omega) _)
    have f4 := later hB2 f1
    have z4 := laterF hB2 f1 z1
    have f5 := later hB2 f2
    have z5 := laterF hB2 f2 z2
    have f6 : (w1.alloc (Obj.cells #[Value.int .i64 (ratX n d), Value.int .i64 (ratY n d)] 73)).cell? ⟨w1.heap.size, 0, none⟩ = some (.int .i64 (ratX n d)) := by go_simp
    have f7 : (w1.alloc (Obj.cells #[Value.int .i64 (ratX n d), Value.int .i64 (ratY n d)] 73)).cell? ⟨w1.heap.size, 1, none⟩ = some (.int .i64 (ratY n d)) := by go_simp
    generalize (w1.alloc (Obj.cells #[Value.int .i64 (ratX n d), Value.int .i64 (ratY n d)] 73)) = w2 at hB2 f4 z4 f5 z5 f6 f7 ⊢
    have l8 : w.heap.size < w2.heap.size := World.block_lt_of_cell? _ _ f4
    have l9 : w1.heap.size < w2.heap.size := World.block_lt_of_cell? _ _ f6
    have hW2 := bseq hB1 (hB2)
    have hZ2 := hW2.size
    go_wp2
    refine bodyPost_ret (v := .tuple #[.agg #[.int .i64 (ratX n d), .int .i64 (ratY n d)], .int .i64 (ratC n d 3)]) (by rw [HV.out]; simp [results, Try.results102, go_sem, f4, f5, f6, f7, z4, z5, l8, Nat.ne_of_lt l8, l9, Nat.ne_of_lt l9]) rfl ⟨rfl, by have hx := hW2; first | (go_grown; done) | (repeat (first | exact hx | exact Below.refl _ _ | refine Below.drew ?_ | refine below_drewN ?_ _ | refine Below.alloc ?_ (by (try simp only [World.size_alloc, World.size_drew, size_drewN, World.size_setCell]); omega) _ | refine Below.setCell ?_ (by (try dsimp only); omega) _); done)⟩
  · have HC : Hid (ratC n d 2 = 2) := by show _ = _; simp [ratC, h]
    have HV : Hid (ratX n d = 0 ∧ ratY n d = 0 ∧ ratC n d 3 = 3) := by show _ ∧ _ ∧ _; simp [ratX, ratY, ratC, h]
    go_enter Try.func102, Try.ntmps102
    go_wp2_with fail
    refine (sMake_any _ _ _ (by omega) (by omega) (by omega)).mono ?_
    rintro en w1 ⟨rfl, hb1⟩
    have hB1 : Below w.heap.size w w1 := by first | exact hb1 | exact Below.trans (by repeat (first | exact Below.refl _ _ | refine Below.drew ?_ | refine below_drewN ?_ _ | refine Below.alloc ?_ (by (try simp only [World.size_alloc, World.size_drew, size_drewN, World.size_setCell]); omega) _ | refine Below.setCell ?_ (by (try dsimp only); omega) _)) (hb1.mono (by (try simp only [World.size_alloc, World.size_drew, size_drewN, World.size_setCell]); omega))
    have f1 : w1.cell? ⟨w.heap.size, 0, none⟩ = some (.int .i64 0) := (hb1.cell (p := ⟨w.heap.size, 0, none⟩) (by first | (go_size; done) | (simp; done) | (simp <;> omega))).trans (by go_simp)
    have z1 : w1.frozen? ⟨w.heap.size, 0, none⟩ = false := (hb1.frozen (p := ⟨w.heap.size, 0, none⟩) (by first | (go_size; done) | (simp; done) | (simp <;> omega))).trans (by go_simp)
    have f2 : w1.cell? ⟨w.heap.size, 1, none⟩ = some (.int .i64 0) := (hb1.cell (p := ⟨w.heap.size, 1, none⟩) (by first | (go_size; done) | (simp; done) | (simp <;> omega))).trans (by go_simp)
    have z2 : w1.frozen? ⟨w.heap.size, 1, none⟩ = false := (hb1.frozen (p := ⟨w.heap.size, 1, none⟩) (by first | (go_size; done) | (simp; done) | (simp <;> omega))).trans (by go_simp)
    have l3 : w.heap.size < w1.heap.size := World.block_lt_of_cell? _ _ f1
    have hZ1 := hB1.size
    rw [HC.out]
    go_upto_region 2 with fail
    have hB2 : Below w1.heap.size w1 (w1.alloc (Obj.cells #[Value.int .i64 (ratX n d), Value.int .i64 (ratY n d)] 73)) := by repeat (first | exact Below.refl _ _ | refine Below.drew ?_ | refine below_drewN ?_ _ | refine Below.alloc ?_ (by (try simp only [World.size_alloc, World.size_drew, size_drewN, World.size_setCell]); omega) _ | refine Below.setCell ?_ (by (try dsimp only); omega) _)
    have f4 := later hB2 f1
    have z4 := laterF hB2 f1 z1
    have f5 := later hB2 f2
    have z5 := laterF hB2 f2 z2
    have f6 : (w1.alloc (Obj.cells #[Value.int .i64 (ratX n d), Value.int .i64 (ratY n d)] 73)).cell? ⟨w1.heap.size, 0, none⟩ = some (.int .i64 (ratX n d)) := by go_simp
    have f7 : (w1.alloc (Obj.cells #[Value.int .i64 (ratX n d), Value.int .i64 (ratY n d)] 73)).cell? ⟨w1.heap.size, 1, none⟩ = some (.int .i64 (ratY n d)) := by go_simp
    generalize (w1.alloc (Obj.cells #[Value.int .i64 (ratX n d), Value.int .i64 (ratY n d)] 73)) = w2 at hB2 f4 z4 f5 z5 f6 f7 ⊢
    have l8 : w.heap.size < w2.heap.size := World.block_lt_of_cell? _ _ f4
    have l9 : w1.heap.size < w2.heap.size := World.block_lt_of_cell? _ _ f6
    have hW2 := bseq hB1 (hB2)
    have hZ2 := hW2.size
    go_wp2
    refine bodyPost_ret (v := .tuple #[.agg #[.int .i64 (ratX n d), .int .i64 (ratY n d)], .int .i64 (ratC n d 3)]) (by rw [HV.out.1, HV.out.2.1, HV.out.2.2]; simp [results, Try.results102, go_sem, f4, f5, f6, f7, z4, z5, l8, Nat.ne_of_lt l8, l9, Nat.ne_of_lt l9]) rfl ⟨rfl, by have hx := hW2; first | (go_grown; done) | (repeat (first | exact hx | exact Below.refl _ _ | refine Below.drew ?_ | refine below_drewN ?_ _ | refine Below.alloc ?_ (by (try simp only [World.size_alloc, World.size_drew, size_drewN, World.size_setCell]); omega) _ | refine Below.setCell ?_ (by (try dsimp only); omega) _); done)⟩
end Go.Proofs.Ytoccglmlpobeeaa
