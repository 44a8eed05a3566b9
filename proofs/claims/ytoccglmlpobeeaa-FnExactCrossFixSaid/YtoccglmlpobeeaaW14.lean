/- walks: ClosestTime, ClosestSquare, the program -/
import Derived.Test.YtoccglmlpobeeaaPlainC
import Derived.Test.YtoccglmlpobeeaaW13
import Derived.Deep.DeepCutAuto
set_option linter.unusedVariables false
set_option linter.unusedSimpArgs false
namespace Go.Proofs.Ytoccglmlpobeeaa
open Go.RowKit

set_option maxHeartbeats 16000000 in
theorem iCTYes_any (p q r s t u v z a b c d : Int) (w : World) (h1 : trk2 p q r s t u v z = true) (HA : Hid (t - p = a)) (HB : Hid (u - q = b)) (HC : Hid (v - r = c)) (HD : Hid (z - s = d))
    (ba : -200000 ≤ a ∧ a ≤ 200000) (bb : -200000 ≤ b ∧ b ≤ 200000) (bc : -2000 ≤ c ∧ c ≤ 2000) (bd : -2000 ≤ d ∧ d ≤ 2000) :
    Calls Try.prog 56 #[.agg #[.int .i64 p, .int .i64 q, .int .i64 r, .int .i64 s], .agg #[.int .i64 t, .int .i64 u, .int .i64 v, .int .i64 z]] w fun en w9 => en = .returned (.tuple #[.agg #[.int .i64 (ctX a b c d), .int .i64 (ctY a b c d)], .int .i64 (ctC a b c d)]) ∧ Below w.heap.size w w9 := by
  by_cases z0 : c = 0 ∧ d = 0
  · obtain ⟨rfl, rfl⟩ := z0
    have HV : Hid (ctX a b 0 0 = 0 ∧ ctY a b 0 0 = 0 ∧ ctC a b 0 0 = 5) := ⟨rfl, rfl, rfl⟩
    go_enter Try.func56, Try.ntmps56
    go_wp2_with fail
    refine (rel4_any _ _ _ _ _ _ _ _ a b 0 0 _ (by assumption) HA HB HC HD).mono ?_
    rintro en w1 ⟨rfl, hb1⟩
    have hB1 : Below w.heap.size w w1 := by first | exact hb1 | exact Below.trans (by repeat (first | exact Below.refl _ _ | refine Below.drew ?_ | refine below_drewN ?_ _ | refine Below.alloc ?_ (by (try simp only [World.size_alloc, World.size_drew, size_drewN, World.size_setCell]); omega) _ | refine Below.setCell ?_ (by (try dsimp only); omega) _)) (hb1.mono (by (try simp only [World.size_alloc, World.size_drew, size_drewN, World.size_setCell]); omega))
    have f1 : w1.cell? ⟨w.heap.size + 2, 0, none⟩ = some (.int .i64 0) := (hb1.cell (p := ⟨w.heap.size + 2, 0, none⟩) (by first | (go_size; done) | (simp; done) | (simp <;> omega))).trans (by go_simp)
    have z1 : w1.frozen? ⟨w.heap.size + 2, 0, none⟩ = false := (hb1.frozen (p := ⟨w.heap.size + 2, 0, none⟩) (by first | (go_size; done) | (simp; done) | (simp <;> omega))).trans (by go_simp)
    have f2 : w1.cell? ⟨w.heap.size + 2, 1, none⟩ = some (.int .i64 0) := (hb1.cell (p := ⟨w.heap.size + 2, 1, none⟩) (by first | (go_size; done) | (simp; done) | (simp <;> omega))).trans (by go_simp)
    have z2 : w1.frozen? ⟨w.heap.size + 2, 1, none⟩ = false := (hb1.frozen (p := ⟨w.heap.size + 2, 1, none⟩) (by first | (go_size; done) | (simp; done) | (simp <;> omega))).trans (by go_simp)
    have l3 : w.heap.size + 2 < w1.heap.size := World.block_lt_of_cell? _ _ f1
    have hZ1 := hB1.size
    go_upto_region 2 with fail
    have hB2 : Below w1.heap.size w1 ((w1.alloc (Obj.cells #[Value.int .i64 a, Value.int .i64 b] 25)).alloc (Obj.cells #[Value.int .i64 0, Value.int .i64 0] 25)) := by repeat (first | exact Below.refl _ _ | refine Below.drew ?_ | refine below_drewN ?_ _ | refine Below.alloc ?_ (by (try simp only [World.size_alloc, World.size_drew, size_drewN, World.size_setCell]); omega) _ | refine Below.setCell ?_ (by (try dsimp only); omega) _)
    have f4 := later hB2 f1
    have z4 := laterF hB2 f1 z1
    have f5 := later hB2 f2
    have z5 := laterF hB2 f2 z2
    have f6 : ((w1.alloc (Obj.cells #[Value.int .i64 a, Value.int .i64 b] 25)).alloc (Obj.cells #[Value.int .i64 0, Value.int .i64 0] 25)).cell? ⟨w1.heap.size, 0, none⟩ = some (.int .i64 a) := by go_simp
    have f7 : ((w1.alloc (Obj.cells #[Value.int .i64 a, Value.int .i64 b] 25)).alloc (Obj.cells #[Value.int .i64 0, Value.int .i64 0] 25)).cell? ⟨w1.heap.size, 1, none⟩ = some (.int .i64 b) := by go_simp
    have f8 : ((w1.alloc (Obj.cells #[Value.int .i64 a, Value.int .i64 b] 25)).alloc (Obj.cells #[Value.int .i64 0, Value.int .i64 0] 25)).cell? ⟨w1.heap.size + 1, 0, none⟩ = some (.int .i64 0) := by go_simp
    have f9 : ((w1.alloc (Obj.cells #[Value.int .i64 a, Value.int .i64 b] 25)).alloc (Obj.cells #[Value.int .i64 0, Value.int .i64 0] 25)).cell? ⟨w1.heap.size + 1, 1, none⟩ = some (.int .i64 0) := by go_simp
    generalize ((w1.alloc (Obj.cells #[Value.int .i64 a, Value.int .i64 b] 25)).alloc (Obj.cells #[Value.int .i64 0, Value.int .i64 0] 25)) = w2 at hB2 f4 z4 f5 z5 f6 f7 f8 f9 ⊢
    have l10 : w.heap.size + 2 < w2.heap.size := World.block_lt_of_cell? _ _ f4
    have l11 : w1.heap.size < w2.heap.size := World.block_lt_of_cell? _ _ f6
    have l12 : w1.heap.size + 1 < w2.heap.size := World.block_lt_of_cell? _ _ f8
    have hW2 := bseq hB1 (hB2)
    have hZ2 := hW2.size
    go_wp2
    refine bodyPost_ret (v := .tuple #[.agg #[.int .i64 (ctX a b 0 0), .int .i64 (ctY a b 0 0)], .int .i64 (ctC a b 0 0)]) (by rw [HV.out.1, HV.out.2.1, HV.out.2.2]; simp [results, Try.results56, go_sem, f4, f5, f6, f7, f8, f9, z4, z5, l10, Nat.ne_of_lt l10, l11, Nat.ne_of_lt l11, l12, Nat.ne_of_lt l12]) rfl ⟨rfl, by have hx := hW2; first | (go_grown; done) | (repeat (first | exact hx | exact Below.refl _ _ | refine Below.drew ?_ | refine below_drewN ?_ _ | refine Below.alloc ?_ (by (try simp only [World.size_alloc, World.size_drew, size_drewN, World.size_setCell]); omega) _ | refine Below.setCell ?_ (by (try dsimp only); omega) _); done) | exact below_drewN (by go_grown) _⟩
  · have nb := norm_bd bc bd z0
    have dd := (dot_bd ba bb (c := c) (d := d) (by omega) (by omega)).2
    have HZ : isZ c d = false := by unfold isZ; simpa using z0
    rcases Int.lt_or_le (dot a b c d) 0 with t0 | t0
    · have HV : Hid (ctX a b c d = ratX (-dot a b c d) (dot c d c d) ∧ ctY a b c d = ratY (-dot a b c d) (dot c d c d) ∧ ctC a b c d = ratC (-dot a b c d) (dot c d c d) 3) := by
        show _ ∧ _ ∧ _; unfold ctX ctY ctC; rw [HZ, tmT_neg t0]; exact ⟨rfl, rfl, rfl⟩
      clear HZ
      by_cases c0 : c = 0
      · subst c0
        have d0 : ¬ d = 0 := fun h => z0 ⟨rfl, h⟩
        clear z0
        go_enter Try.func56, Try.ntmps56
        go_wp2_with fail
        refine (rel4_any _ _ _ _ _ _ _ _ a b 0 d _ (by assumption) HA HB HC HD).mono ?_
        rintro en w1 ⟨rfl, hb1⟩
        have hB1 : Below w.heap.size w w1 := by first | exact hb1 | exact Below.trans (by repeat (first | exact Below.refl _ _ | refine Below.drew ?_ | refine below_drewN ?_ _ | refine Below.alloc ?_ (by (try simp only [World.size_alloc, World.size_drew, size_drewN, World.size_setCell]); omega) _ | refine Below.setCell ?_ (by (try dsimp only); omega) _)) (hb1.mono (by (try simp only [World.size_alloc, World.size_drew, size_drewN, World.size_setCell]); omega))
        have f1 : w1.cell? ⟨w.heap.size + 2, 0, none⟩ = some (.int .i64 0) := (hb1.cell (p := ⟨w.heap.size + 2, 0, none⟩) (by first | (go_size; done) | (simp; done) | (simp <;> omega))).trans (by go_simp)
        have z1 : w1.frozen? ⟨w.heap.size + 2, 0, none⟩ = false := (hb1.frozen (p := ⟨w.heap.size + 2, 0, none⟩) (by first | (go_size; done) | (simp; done) | (simp <;> omega))).trans (by go_simp)
        have f2 : w1.cell? ⟨w.heap.size + 2, 1, none⟩ = some (.int .i64 0) := (hb1.cell (p := ⟨w.heap.size + 2, 1, none⟩) (by first | (go_size; done) | (simp; done) | (simp <;> omega))).trans (by go_simp)
        have z2 : w1.frozen? ⟨w.heap.size + 2, 1, none⟩ = false := (hb1.frozen (p := ⟨w.heap.size + 2, 1, none⟩) (by first | (go_size; done) | (simp; done) | (simp <;> omega))).trans (by go_simp)
        have l3 : w.heap.size + 2 < w1.heap.size := World.block_lt_of_cell? _ _ f1
        have hZ1 := hB1.size
        go_upto_region 2 with fail
        have hB2 : Below w1.heap.size w1 ((w1.alloc (Obj.cells #[Value.int .i64 a, Value.int .i64 b] 25)).alloc (Obj.cells #[Value.int .i64 0, Value.int .i64 d] 25)) := by repeat (first | exact Below.refl _ _ | refine Below.drew ?_ | refine below_drewN ?_ _ | refine Below.alloc ?_ (by (try simp only [World.size_alloc, World.size_drew, size_drewN, World.size_setCell]); omega) _ | refine Below.setCell ?_ (by (try dsimp only); omega) _)
        have f4 := later hB2 f1
        have z4 := laterF hB2 f1 z1
        have f5 := later hB2 f2
        have z5 := laterF hB2 f2 z2
        have f6 : ((w1.alloc (Obj.cells #[Value.int .i64 a, Value.int .i64 b] 25)).alloc (Obj.cells #[Value.int .i64 0, Value.int .i64 d] 25)).cell? ⟨w1.heap.size, 0, none⟩ = some (.int .i64 a) := by go_simp
        have f7 : ((w1.alloc (Obj.cells #[Value.int .i64 a, Value.int .i64 b] 25)).alloc (Obj.cells #[Value.int .i64 0, Value.int .i64 d] 25)).cell? ⟨w1.heap.size, 1, none⟩ = some (.int .i64 b) := by go_simp
        have f8 : ((w1.alloc (Obj.cells #[Value.int .i64 a, Value.int .i64 b] 25)).alloc (Obj.cells #[Value.int .i64 0, Value.int .i64 d] 25)).cell? ⟨w1.heap.size + 1, 0, none⟩ = some (.int .i64 0) := by go_simp
        have f9 : ((w1.alloc (Obj.cells #[Value.int .i64 a, Value.int .i64 b] 25)).alloc (Obj.cells #[Value.int .i64 0, Value.int .i64 d] 25)).cell? ⟨w1.heap.size + 1, 1, none⟩ = some (.int .i64 d) := by go_simp
        generalize ((w1.alloc (Obj.cells #[Value.int .i64 a, Value.int .i64 b] 25)).alloc (Obj.cells #[Value.int .i64 0, Value.int .i64 d] 25)) = w2 at hB2 f4 z4 f5 z5 f6 f7 f8 f9 ⊢
        have l10 : w.heap.size + 2 < w2.heap.size := World.block_lt_of_cell? _ _ f4
        have l11 : w1.heap.size < w2.heap.size := World.block_lt_of_cell? _ _ f6
        have l12 : w1.heap.size + 1 < w2.heap.size := World.block_lt_of_cell? _ _ f8
        have hW2 := bseq hB1 (hB2)
        have hZ2 := hW2.size
        have ew : IntKind.i64.wrap (-(dot a b 0 d)) = -(dot a b 0 d) := IntWalk.i64_in _ (by omega)
        have ew0 : IntKind.i64.wrap 0 = 0 := IntWalk.i64_in _ (by omega)
        go_wp2_with fail
        have HTS : Hid (∀ X : World, Below w2.heap.size w2 X → X.cell? ⟨w1.heap.size, 0, none⟩ = some (.int .i64 a) ∧ X.cell? ⟨w1.heap.size, 1, none⟩ = some (.int .i64 b) ∧ X.cell? ⟨w1.heap.size + 1, 0, none⟩ = some (.int .i64 0) ∧ X.cell? ⟨w1.heap.size + 1, 1, none⟩ = some (.int .i64 d)) := fun X hB => ⟨later hB f6, later hB f7, later hB f8, later hB f9⟩
        have HB0 : Hid (Below w2.heap.size w2 w2) := Below.refl _ _
        (try have n13 : ¬ w.heap.size + 2 = w1.heap.size := (by omega))
        (try have n14 : ¬ w.heap.size + 2 = w1.heap.size + 1 := (by omega))
        (try have n15 : ¬ w.heap.size + 1 = w1.heap.size := (by omega))
        (try have n16 : ¬ w1.heap.size = w.heap.size + 2 := (by omega))
        (try have n17 : ¬ w1.heap.size + 1 = w.heap.size + 2 := (by omega))
        (try have n18 : ¬ w1.heap.size = w.heap.size + 1 := (by omega))
        go_region_held3 (fun w9 => w9.cell? ⟨w1.heap.size, 0, none⟩ = some (.int .i64 a) ∧ w9.cell? ⟨w1.heap.size, 1, none⟩ = some (.int .i64 b) ∧ w9.cell? ⟨w1.heap.size + 1, 0, none⟩ = some (.int .i64 0) ∧ w9.cell? ⟨w1.heap.size + 1, 1, none⟩ = some (.int .i64 d)) (first | with_reducible assumption | (focus (refine HTS.out _ ?_; (repeat (first | assumption | exact Below.refl _ _ | refine Below.drew ?_ | refine below_drewN ?_ _ | (refine Below.alloc ?_ ?_ _; rotate_left; ((try simp only [World.size_alloc, World.size_drew, size_drewN, World.size_setCell]); omega)) | (refine Below.setCell ?_ ?_ _; rotate_left; ((try dsimp only); omega)))); done)) | go_keep) (first | (go_at_call 95; refine (iDot_any _ _ _ _ _).mono ?_; rintro en wx ⟨rfl, hb⟩; have hB9 : Below w2.heap.size w2 wx := Below.trans (b := _) (by first | assumption | (repeat (first | assumption | exact Below.refl _ _ | refine Below.drew ?_ | refine below_drewN ?_ _ | refine Below.alloc ?_ (by (try simp only [World.size_alloc, World.size_drew, size_drewN, World.size_setCell]); omega) _ | refine Below.setCell ?_ (by (try dsimp only); omega) _))) (hb.mono (by (try simp only [World.size_alloc, World.size_drew, size_drewN, World.size_setCell]); omega)); have hz9 := hB9.size; clear hb; have r0 : wx.cell? ⟨w.heap.size + 2, 0, none⟩ = some (.int .i64 0) := later hB9 f4; have rz0 : wx.frozen? ⟨w.heap.size + 2, 0, none⟩ = false := laterF hB9 f4 z4; have r1 : wx.cell? ⟨w.heap.size + 2, 1, none⟩ = some (.int .i64 0) := later hB9 f5; have rz1 : wx.frozen? ⟨w.heap.size + 2, 1, none⟩ = false := laterF hB9 f5 z5; have r2 : wx.cell? ⟨w1.heap.size, 0, none⟩ = some (.int .i64 a) := later hB9 f6; have r3 : wx.cell? ⟨w1.heap.size, 1, none⟩ = some (.int .i64 b) := later hB9 f7; have r4 : wx.cell? ⟨w1.heap.size + 1, 0, none⟩ = some (.int .i64 0) := later hB9 f8; have r5 : wx.cell? ⟨w1.heap.size + 1, 1, none⟩ = some (.int .i64 d) := later hB9 f9) | (go_at_call 103; refine (iRatio_any _ _ _ _ (by omega) (by omega) (by omega)).mono ?_; rintro en wx ⟨rfl, hb⟩; have hB9 : Below w2.heap.size w2 wx := Below.trans (b := _) (by first | assumption | (repeat (first | assumption | exact Below.refl _ _ | refine Below.drew ?_ | refine below_drewN ?_ _ | refine Below.alloc ?_ (by (try simp only [World.size_alloc, World.size_drew, size_drewN, World.size_setCell]); omega) _ | refine Below.setCell ?_ (by (try dsimp only); omega) _))) (hb.mono (by (try simp only [World.size_alloc, World.size_drew, size_drewN, World.size_setCell]); omega)); have hz9 := hB9.size; clear hb; have r0 : wx.cell? ⟨w.heap.size + 2, 0, none⟩ = some (.int .i64 0) := later hB9 f4; have rz0 : wx.frozen? ⟨w.heap.size + 2, 0, none⟩ = false := laterF hB9 f4 z4; have r1 : wx.cell? ⟨w.heap.size + 2, 1, none⟩ = some (.int .i64 0) := later hB9 f5; have rz1 : wx.frozen? ⟨w.heap.size + 2, 1, none⟩ = false := laterF hB9 f5 z5; have r2 : wx.cell? ⟨w1.heap.size, 0, none⟩ = some (.int .i64 a) := later hB9 f6; have r3 : wx.cell? ⟨w1.heap.size, 1, none⟩ = some (.int .i64 b) := later hB9 f7; have r4 : wx.cell? ⟨w1.heap.size + 1, 0, none⟩ = some (.int .i64 0) := later hB9 f8; have r5 : wx.cell? ⟨w1.heap.size + 1, 1, none⟩ = some (.int .i64 d) := later hB9 f9))
        all_goals (have hB3 : Below w2.heap.size w2 wx := (by assumption); have hW3 := bseq hB1 (bseq hB2 (hB3)); have hZ3 := hW3.size; go_wp2; refine bodyPost_ret (v := .tuple #[.agg #[.int .i64 (ctX a b 0 d), .int .i64 (ctY a b 0 d)], .int .i64 (ctC a b 0 d)]) (by rw [HV.out.1, HV.out.2.1, HV.out.2.2]; simp [results, Try.results56, go_sem, r0, r1, r2, r3, r4, r5, rz0, rz1, l10, Nat.ne_of_lt l10, l11, Nat.ne_of_lt l11, l12, Nat.ne_of_lt l12]) rfl ⟨rfl, by have hx := hW3; first | (go_grown; done) | (repeat (first | exact hx | exact Below.refl _ _ | refine Below.drew ?_ | refine below_drewN ?_ _ | refine Below.alloc ?_ (by (try simp only [World.size_alloc, World.size_drew, size_drewN, World.size_setCell]); omega) _ | refine Below.setCell ?_ (by (try dsimp only); omega) _); done) | exact below_drewN (by go_grown) _⟩)
      · clear z0
        go_enter Try.func56, Try.ntmps56
        go_wp2_with fail
        refine (rel4_any _ _ _ _ _ _ _ _ a b c d _ (by assumption) HA HB HC HD).mono ?_
        rintro en w1 ⟨rfl, hb1⟩
        have hB1 : Below w.heap.size w w1 := by first | exact hb1 | exact Below.trans (by repeat (first | exact Below.refl _ _ | refine Below.drew ?_ | refine below_drewN ?_ _ | refine Below.alloc ?_ (by (try simp only [World.size_alloc, World.size_drew, size_drewN, World.size_setCell]); omega) _ | refine Below.setCell ?_ (by (try dsimp only); omega) _)) (hb1.mono (by (try simp only [World.size_alloc, World.size_drew, size_drewN, World.size_setCell]); omega))
        have f1 : w1.cell? ⟨w.heap.size + 2, 0, none⟩ = some (.int .i64 0) := (hb1.cell (p := ⟨w.heap.size + 2, 0, none⟩) (by first | (go_size; done) | (simp; done) | (simp <;> omega))).trans (by go_simp)
        have z1 : w1.frozen? ⟨w.heap.size + 2, 0, none⟩ = false := (hb1.frozen (p := ⟨w.heap.size + 2, 0, none⟩) (by first | (go_size; done) | (simp; done) | (simp <;> omega))).trans (by go_simp)
        have f2 : w1.cell? ⟨w.heap.size + 2, 1, none⟩ = some (.int .i64 0) := (hb1.cell (p := ⟨w.heap.size + 2, 1, none⟩) (by first | (go_size; done) | (simp; done) | (simp <;> omega))).trans (by go_simp)
        have z2 : w1.frozen? ⟨w.heap.size + 2, 1, none⟩ = false := (hb1.frozen (p := ⟨w.heap.size + 2, 1, none⟩) (by first | (go_size; done) | (simp; done) | (simp <;> omega))).trans (by go_simp)
        have l3 : w.heap.size + 2 < w1.heap.size := World.block_lt_of_cell? _ _ f1
        have hZ1 := hB1.size
        go_upto_region 2 with fail
        have hB2 : Below w1.heap.size w1 ((w1.alloc (Obj.cells #[Value.int .i64 a, Value.int .i64 b] 25)).alloc (Obj.cells #[Value.int .i64 c, Value.int .i64 d] 25)) := by repeat (first | exact Below.refl _ _ | refine Below.drew ?_ | refine below_drewN ?_ _ | refine Below.alloc ?_ (by (try simp only [World.size_alloc, World.size_drew, size_drewN, World.size_setCell]); omega) _ | refine Below.setCell ?_ (by (try dsimp only); omega) _)
        have f4 := later hB2 f1
        have z4 := laterF hB2 f1 z1
        have f5 := later hB2 f2
        have z5 := laterF hB2 f2 z2
        have f6 : ((w1.alloc (Obj.cells #[Value.int .i64 a, Value.int .i64 b] 25)).alloc (Obj.cells #[Value.int .i64 c, Value.int .i64 d] 25)).cell? ⟨w1.heap.size, 0, none⟩ = some (.int .i64 a) := by go_simp
        have f7 : ((w1.alloc (Obj.cells #[Value.int .i64 a, Value.int .i64 b] 25)).alloc (Obj.cells #[Value.int .i64 c, Value.int .i64 d] 25)).cell? ⟨w1.heap.size, 1, none⟩ = some (.int .i64 b) := by go_simp
        have f8 : ((w1.alloc (Obj.cells #[Value.int .i64 a, Value.int .i64 b] 25)).alloc (Obj.cells #[Value.int .i64 c, Value.int .i64 d] 25)).cell? ⟨w1.heap.size + 1, 0, none⟩ = some (.int .i64 c) := by go_simp
        have f9 : ((w1.alloc (Obj.cells #[Value.int .i64 a, Value.int .i64 b] 25)).alloc (Obj.cells #[Value.int .i64 c, Value.int .i64 d] 25)).cell? ⟨w1.heap.size + 1, 1, none⟩ = some (.int .i64 d) := by go_simp
        generalize ((w1.alloc (Obj.cells #[Value.int .i64 a, Value.int .i64 b] 25)).alloc (Obj.cells #[Value.int .i64 c, Value.int .i64 d] 25)) = w2 at hB2 f4 z4 f5 z5 f6 f7 f8 f9 ⊢
        have l10 : w.heap.size + 2 < w2.heap.size := World.block_lt_of_cell? _ _ f4
        have l11 : w1.heap.size < w2.heap.size := World.block_lt_of_cell? _ _ f6
        have l12 : w1.heap.size + 1 < w2.heap.size := World.block_lt_of_cell? _ _ f8
        have hW2 := bseq hB1 (hB2)
        have hZ2 := hW2.size
        have ew : IntKind.i64.wrap (-(dot a b c d)) = -(dot a b c d) := IntWalk.i64_in _ (by omega)
        have ew0 : IntKind.i64.wrap 0 = 0 := IntWalk.i64_in _ (by omega)
        go_wp2_with fail
        have HTS : Hid (∀ X : World, Below w2.heap.size w2 X → X.cell? ⟨w1.heap.size, 0, none⟩ = some (.int .i64 a) ∧ X.cell? ⟨w1.heap.size, 1, none⟩ = some (.int .i64 b) ∧ X.cell? ⟨w1.heap.size + 1, 0, none⟩ = some (.int .i64 c) ∧ X.cell? ⟨w1.heap.size + 1, 1, none⟩ = some (.int .i64 d)) := fun X hB => ⟨later hB f6, later hB f7, later hB f8, later hB f9⟩
        have HB0 : Hid (Below w2.heap.size w2 w2) := Below.refl _ _
        (try have n13 : ¬ w.heap.size + 2 = w1.heap.size := (by omega))
        (try have n14 : ¬ w.heap.size + 2 = w1.heap.size + 1 := (by omega))
        (try have n15 : ¬ w.heap.size + 1 = w1.heap.size := (by omega))
        (try have n16 : ¬ w1.heap.size = w.heap.size + 2 := (by omega))
        (try have n17 : ¬ w1.heap.size + 1 = w.heap.size + 2 := (by omega))
        (try have n18 : ¬ w1.heap.size = w.heap.size + 1 := (by omega))
        go_region_held3 (fun w9 => w9.cell? ⟨w1.heap.size, 0, none⟩ = some (.int .i64 a) ∧ w9.cell? ⟨w1.heap.size, 1, none⟩ = some (.int .i64 b) ∧ w9.cell? ⟨w1.heap.size + 1, 0, none⟩ = some (.int .i64 c) ∧ w9.cell? ⟨w1.heap.size + 1, 1, none⟩ = some (.int .i64 d)) (first | with_reducible assumption | (focus (refine HTS.out _ ?_; (repeat (first | assumption | exact Below.refl _ _ | refine Below.drew ?_ | refine below_drewN ?_ _ | (refine Below.alloc ?_ ?_ _; rotate_left; ((try simp only [World.size_alloc, World.size_drew, size_drewN, World.size_setCell]); omega)) | (refine Below.setCell ?_ ?_ _; rotate_left; ((try dsimp only); omega)))); done)) | go_keep) (first | (go_at_call 95; refine (iDot_any _ _ _ _ _).mono ?_; rintro en wx ⟨rfl, hb⟩; have hB9 : Below w2.heap.size w2 wx := Below.trans (b := _) (by first | assumption | (repeat (first | assumption | exact Below.refl _ _ | refine Below.drew ?_ | refine below_drewN ?_ _ | refine Below.alloc ?_ (by (try simp only [World.size_alloc, World.size_drew, size_drewN, World.size_setCell]); omega) _ | refine Below.setCell ?_ (by (try dsimp only); omega) _))) (hb.mono (by (try simp only [World.size_alloc, World.size_drew, size_drewN, World.size_setCell]); omega)); have hz9 := hB9.size; clear hb; have r0 : wx.cell? ⟨w.heap.size + 2, 0, none⟩ = some (.int .i64 0) := later hB9 f4; have rz0 : wx.frozen? ⟨w.heap.size + 2, 0, none⟩ = false := laterF hB9 f4 z4; have r1 : wx.cell? ⟨w.heap.size + 2, 1, none⟩ = some (.int .i64 0) := later hB9 f5; have rz1 : wx.frozen? ⟨w.heap.size + 2, 1, none⟩ = false := laterF hB9 f5 z5; have r2 : wx.cell? ⟨w1.heap.size, 0, none⟩ = some (.int .i64 a) := later hB9 f6; have r3 : wx.cell? ⟨w1.heap.size, 1, none⟩ = some (.int .i64 b) := later hB9 f7; have r4 : wx.cell? ⟨w1.heap.size + 1, 0, none⟩ = some (.int .i64 c) := later hB9 f8; have r5 : wx.cell? ⟨w1.heap.size + 1, 1, none⟩ = some (.int .i64 d) := later hB9 f9) | (go_at_call 103; refine (iRatio_any _ _ _ _ (by omega) (by omega) (by omega)).mono ?_; rintro en wx ⟨rfl, hb⟩; have hB9 : Below w2.heap.size w2 wx := Below.trans (b := _) (by first | assumption | (repeat (first | assumption | exact Below.refl _ _ | refine Below.drew ?_ | refine below_drewN ?_ _ | refine Below.alloc ?_ (by (try simp only [World.size_alloc, World.size_drew, size_drewN, World.size_setCell]); omega) _ | refine Below.setCell ?_ (by (try dsimp only); omega) _))) (hb.mono (by (try simp only [World.size_alloc, World.size_drew, size_drewN, World.size_setCell]); omega)); have hz9 := hB9.size; clear hb; have r0 : wx.cell? ⟨w.heap.size + 2, 0, none⟩ = some (.int .i64 0) := later hB9 f4; have rz0 : wx.frozen? ⟨w.heap.size + 2, 0, none⟩ = false := laterF hB9 f4 z4; have r1 : wx.cell? ⟨w.heap.size + 2, 1, none⟩ = some (.int .i64 0) := later hB9 f5; have rz1 : wx.frozen? ⟨w.heap.size + 2, 1, none⟩ = false := laterF hB9 f5 z5; have r2 : wx.cell? ⟨w1.heap.size, 0, none⟩ = some (.int .i64 a) := later hB9 f6; have r3 : wx.cell? ⟨w1.heap.size, 1, none⟩ = some (.int .i64 b) := later hB9 f7; have r4 : wx.cell? ⟨w1.heap.size + 1, 0, none⟩ = some (.int .i64 c) := later hB9 f8; have r5 : wx.cell? ⟨w1.heap.size + 1, 1, none⟩ = some (.int .i64 d) := later hB9 f9))
        all_goals (have hB3 : Below w2.heap.size w2 wx := (by assumption); have hW3 := bseq hB1 (bseq hB2 (hB3)); have hZ3 := hW3.size; go_wp2; refine bodyPost_ret (v := .tuple #[.agg #[.int .i64 (ctX a b c d), .int .i64 (ctY a b c d)], .int .i64 (ctC a b c d)]) (by rw [HV.out.1, HV.out.2.1, HV.out.2.2]; simp [results, Try.results56, go_sem, r0, r1, r2, r3, r4, r5, rz0, rz1, l10, Nat.ne_of_lt l10, l11, Nat.ne_of_lt l11, l12, Nat.ne_of_lt l12]) rfl ⟨rfl, by have hx := hW3; first | (go_grown; done) | (repeat (first | exact hx | exact Below.refl _ _ | refine Below.drew ?_ | refine below_drewN ?_ _ | refine Below.alloc ?_ (by (try simp only [World.size_alloc, World.size_drew, size_drewN, World.size_setCell]); omega) _ | refine Below.setCell ?_ (by (try dsimp only); omega) _); done) | exact below_drewN (by go_grown) _⟩)
    · rcases Int.lt_or_eq_of_le t0 with t1 | t1
      · have HV : Hid (ctX a b c d = ratX 0 (dot c d c d) ∧ ctY a b c d = ratY 0 (dot c d c d) ∧ ctC a b c d = ratC 0 (dot c d c d) 3) := by
          show _ ∧ _ ∧ _; unfold ctX ctY ctC; rw [HZ, tmT_pos t0]; exact ⟨rfl, rfl, rfl⟩
        clear HZ
        by_cases c0 : c = 0
        · subst c0
          have d0 : ¬ d = 0 := fun h => z0 ⟨rfl, h⟩
          clear z0
          go_enter Try.func56, Try.ntmps56
          go_wp2_with fail
          refine (rel4_any _ _ _ _ _ _ _ _ a b 0 d _ (by assumption) HA HB HC HD).mono ?_
          rintro en w1 ⟨rfl, hb1⟩
          have hB1 : Below w.heap.size w w1 := by first | exact hb1 | exact Below.trans (by repeat (first | exact Below.refl _ _ | refine Below.drew ?_ | refine below_drewN ?_ _ | refine Below.alloc ?_ (by (try simp only [World.size_alloc, World.size_drew, size_drewN, World.size_setCell]); omega) _ | refine Below.setCell ?_ (by (try dsimp only); omega) _)) (hb1.mono (by (try simp only [World.size_alloc, World.size_drew, size_drewN, World.size_setCell]); omega))
          have f1 : w1.cell? ⟨w.heap.size + 2, 0, none⟩ = some (.int .i64 0) := (hb1.cell (p := ⟨w.heap.size + 2, 0, none⟩) (by first | (go_size; done) | (simp; done) | (simp <;> omega))).trans (by go_simp)
          have z1 : w1.frozen? ⟨w.heap.size + 2, 0, none⟩ = false := (hb1.frozen (p := ⟨w.heap.size + 2, 0, none⟩) (by first | (go_size; done) | (simp; done) | (simp <;> omega))).trans (by go_simp)
          have f2 : w1.cell? ⟨w.heap.size + 2, 1, none⟩ = some (.int .i64 0) := (hb1.cell (p := ⟨w.heap.size + 2, 1, none⟩) (by first | (go_size; done) | (simp; done) | (simp <;> omega))).trans (by go_simp)
          have z2 : w1.frozen? ⟨w.heap.size + 2, 1, none⟩ = false := (hb1.frozen (p := ⟨w.heap.size + 2, 1, none⟩) (by first | (go_size; done) | (simp; done) | (simp <;> omega))).trans (by go_simp)
          have l3 : w.heap.size + 2 < w1.heap.size := World.block_lt_of_cell? _ _ f1
          have hZ1 := hB1.size
          go_upto_region 2 with fail
          have hB2 : Below w1.heap.size w1 ((w1.alloc (Obj.cells #[Value.int .i64 a, Value.int .i64 b] 25)).alloc (Obj.cells #[Value.int .i64 0, Value.int .i64 d] 25)) := by repeat (first | exact Below.refl _ _ | refine Below.drew ?_ | refine below_drewN ?_ _ | refine Below.alloc ?_ (by (try simp only [World.size_alloc, World.size_drew, size_drewN, World.size_setCell]); omega) _ | refine Below.setCell ?_ (by (try dsimp only); omega) _)
          have f4 := later hB2 f1
          have z4 := laterF hB2 f1 z1
          have f5 := later hB2 f2
          have z5 := laterF hB2 f2 z2
          have f6 : ((w1.alloc (Obj.cells #[Value.int .i64 a, Value.int .i64 b] 25)).alloc (Obj.cells #[Value.int .i64 0, Value.int .i64 d] 25)).cell? ⟨w1.heap.size, 0, none⟩ = some (.int .i64 a) := by go_simp
          have f7 : ((w1.alloc (Obj.cells #[Value.int .i64 a, Value.int .i64 b] 25)).alloc (Obj.cells #[Value.int .i64 0, Value.int .i64 d] 25)).cell? ⟨w1.heap.size, 1, none⟩ = some (.int .i64 b) := by go_simp
          have f8 : ((w1.alloc (Obj.cells #[Value.int .i64 a, Value.int .i64 b] 25)).alloc (Obj.cells #[Value.int .i64 0, Value.int .i64 d] 25)).cell? ⟨w1.heap.size + 1, 0, none⟩ = some (.int .i64 0) := by go_simp
          have f9 : ((w1.alloc (Obj.cells #[Value.int .i64 a, Value.int .i64 b] 25)).alloc (Obj.cells #[Value.int .i64 0, Value.int .i64 d] 25)).cell? ⟨w1.heap.size + 1, 1, none⟩ = some (.int .i64 d) := by go_simp
          generalize ((w1.alloc (Obj.cells #[Value.int .i64 a, Value.int .i64 b] 25)).alloc (Obj.cells #[Value.int .i64 0, Value.int .i64 d] 25)) = w2 at hB2 f4 z4 f5 z5 f6 f7 f8 f9 ⊢
          have l10 : w.heap.size + 2 < w2.heap.size := World.block_lt_of_cell? _ _ f4
          have l11 : w1.heap.size < w2.heap.size := World.block_lt_of_cell? _ _ f6
          have l12 : w1.heap.size + 1 < w2.heap.size := World.block_lt_of_cell? _ _ f8
          have hW2 := bseq hB1 (hB2)
          have hZ2 := hW2.size
          have ew : IntKind.i64.wrap (-(dot a b 0 d)) = -(dot a b 0 d) := IntWalk.i64_in _ (by omega)
          have ew0 : IntKind.i64.wrap 0 = 0 := IntWalk.i64_in _ (by omega)
          go_wp2_with fail
          have HTS : Hid (∀ X : World, Below w2.heap.size w2 X → X.cell? ⟨w1.heap.size, 0, none⟩ = some (.int .i64 a) ∧ X.cell? ⟨w1.heap.size, 1, none⟩ = some (.int .i64 b) ∧ X.cell? ⟨w1.heap.size + 1, 0, none⟩ = some (.int .i64 0) ∧ X.cell? ⟨w1.heap.size + 1, 1, none⟩ = some (.int .i64 d)) := fun X hB => ⟨later hB f6, later hB f7, later hB f8, later hB f9⟩
          have HB0 : Hid (Below w2.heap.size w2 w2) := Below.refl _ _
          (try have n13 : ¬ w.heap.size + 2 = w1.heap.size := (by omega))
          (try have n14 : ¬ w.heap.size + 2 = w1.heap.size + 1 := (by omega))
          (try have n15 : ¬ w.heap.size + 1 = w1.heap.size := (by omega))
          (try have n16 : ¬ w1.heap.size = w.heap.size + 2 := (by omega))
          (try have n17 : ¬ w1.heap.size + 1 = w.heap.size + 2 := (by omega))
          (try have n18 : ¬ w1.heap.size = w.heap.size + 1 := (by omega))
          go_region_held3 (fun w9 => w9.cell? ⟨w1.heap.size, 0, none⟩ = some (.int .i64 a) ∧ w9.cell? ⟨w1.heap.size, 1, none⟩ = some (.int .i64 b) ∧ w9.cell? ⟨w1.heap.size + 1, 0, none⟩ = some (.int .i64 0) ∧ w9.cell? ⟨w1.heap.size + 1, 1, none⟩ = some (.int .i64 d)) (first | with_reducible assumption | (focus (refine HTS.out _ ?_; (repeat (first | assumption | exact Below.refl _ _ | refine Below.drew ?_ | refine below_drewN ?_ _ | (refine Below.alloc ?_ ?_ _; rotate_left; ((try simp only [World.size_alloc, World.size_drew, size_drewN, World.size_setCell]); omega)) | (refine Below.setCell ?_ ?_ _; rotate_left; ((try dsimp only); omega)))); done)) | go_keep) (first | (go_at_call 95; refine (iDot_any _ _ _ _ _).mono ?_; rintro en wx ⟨rfl, hb⟩; have hB9 : Below w2.heap.size w2 wx := Below.trans (b := _) (by first | assumption | (repeat (first | assumption | exact Below.refl _ _ | refine Below.drew ?_ | refine below_drewN ?_ _ | refine Below.alloc ?_ (by (try simp only [World.size_alloc, World.size_drew, size_drewN, World.size_setCell]); omega) _ | refine Below.setCell ?_ (by (try dsimp only); omega) _))) (hb.mono (by (try simp only [World.size_alloc, World.size_drew, size_drewN, World.size_setCell]); omega)); have hz9 := hB9.size; clear hb; have r0 : wx.cell? ⟨w.heap.size + 2, 0, none⟩ = some (.int .i64 0) := later hB9 f4; have rz0 : wx.frozen? ⟨w.heap.size + 2, 0, none⟩ = false := laterF hB9 f4 z4; have r1 : wx.cell? ⟨w.heap.size + 2, 1, none⟩ = some (.int .i64 0) := later hB9 f5; have rz1 : wx.frozen? ⟨w.heap.size + 2, 1, none⟩ = false := laterF hB9 f5 z5; have r2 : wx.cell? ⟨w1.heap.size, 0, none⟩ = some (.int .i64 a) := later hB9 f6; have r3 : wx.cell? ⟨w1.heap.size, 1, none⟩ = some (.int .i64 b) := later hB9 f7; have r4 : wx.cell? ⟨w1.heap.size + 1, 0, none⟩ = some (.int .i64 0) := later hB9 f8; have r5 : wx.cell? ⟨w1.heap.size + 1, 1, none⟩ = some (.int .i64 d) := later hB9 f9) | (go_at_call 103; refine (iRatio_any _ _ _ _ (by omega) (by omega) (by omega)).mono ?_; rintro en wx ⟨rfl, hb⟩; have hB9 : Below w2.heap.size w2 wx := Below.trans (b := _) (by first | assumption | (repeat (first | assumption | exact Below.refl _ _ | refine Below.drew ?_ | refine below_drewN ?_ _ | refine Below.alloc ?_ (by (try simp only [World.size_alloc, World.size_drew, size_drewN, World.size_setCell]); omega) _ | refine Below.setCell ?_ (by (try dsimp only); omega) _))) (hb.mono (by (try simp only [World.size_alloc, World.size_drew, size_drewN, World.size_setCell]); omega)); have hz9 := hB9.size; clear hb; have r0 : wx.cell? ⟨w.heap.size + 2, 0, none⟩ = some (.int .i64 0) := later hB9 f4; have rz0 : wx.frozen? ⟨w.heap.size + 2, 0, none⟩ = false := laterF hB9 f4 z4; have r1 : wx.cell? ⟨w.heap.size + 2, 1, none⟩ = some (.int .i64 0) := later hB9 f5; have rz1 : wx.frozen? ⟨w.heap.size + 2, 1, none⟩ = false := laterF hB9 f5 z5; have r2 : wx.cell? ⟨w1.heap.size, 0, none⟩ = some (.int .i64 a) := later hB9 f6; have r3 : wx.cell? ⟨w1.heap.size, 1, none⟩ = some (.int .i64 b) := later hB9 f7; have r4 : wx.cell? ⟨w1.heap.size + 1, 0, none⟩ = some (.int .i64 0) := later hB9 f8; have r5 : wx.cell? ⟨w1.heap.size + 1, 1, none⟩ = some (.int .i64 d) := later hB9 f9))
          all_goals (have hB3 : Below w2.heap.size w2 wx := (by assumption); have hW3 := bseq hB1 (bseq hB2 (hB3)); have hZ3 := hW3.size; go_wp2; refine bodyPost_ret (v := .tuple #[.agg #[.int .i64 (ctX a b 0 d), .int .i64 (ctY a b 0 d)], .int .i64 (ctC a b 0 d)]) (by rw [HV.out.1, HV.out.2.1, HV.out.2.2]; simp [results, Try.results56, go_sem, r0, r1, r2, r3, r4, r5, rz0, rz1, l10, Nat.ne_of_lt l10, l11, Nat.ne_of_lt l11, l12, Nat.ne_of_lt l12]) rfl ⟨rfl, by have hx := hW3; first | (go_grown; done) | (repeat (first | exact hx | exact Below.refl _ _ | refine Below.drew ?_ | refine below_drewN ?_ _ | refine Below.alloc ?_ (by (try simp only [World.size_alloc, World.size_drew, size_drewN, World.size_setCell]); omega) _ | refine Below.setCell ?_ (by (try dsimp only); omega) _); done) | exact below_drewN (by go_grown) _⟩)
        · clear z0
          go_enter Try.func56, Try.ntmps56
          go_wp2_with fail
          refine (rel4_any _ _ _ _ _ _ _ _ a b c d _ (by assumption) HA HB HC HD).mono ?_
          rintro en w1 ⟨rfl, hb1⟩
          have hB1 : Below w.heap.size w w1 := by first | exact hb1 | exact Below.trans (by repeat (first | exact Below.refl _ _ | refine Below.drew ?_ | refine below_drewN ?_ _ | refine Below.alloc ?_ (by (try simp only [World.size_alloc, World.size_drew, size_drewN, World.size_setCell]); omega) _ | refine Below.setCell ?_ (by (try dsimp only); omega) _)) (hb1.mono (by (try simp only [World.size_alloc, World.size_drew, size_drewN, World.size_setCell]); omega))
          have f1 : w1.cell? ⟨w.heap.size + 2, 0, none⟩ = some (.int .i64 0) := (hb1.cell (p := ⟨w.heap.size + 2, 0, none⟩) (by first | (go_size; done) | (simp; done) | (simp <;> omega))).trans (by go_simp)
          have z1 : w1.frozen? ⟨w.heap.size + 2, 0, none⟩ = false := (hb1.frozen (p := ⟨w.heap.size + 2, 0, none⟩) (by first | (go_size; done) | (simp; done) | (simp <;> omega))).trans (by go_simp)
          have f2 : w1.cell? ⟨w.heap.size + 2, 1, none⟩ = some (.int .i64 0) := (hb1.cell (p := ⟨w.heap.size + 2, 1, none⟩) (by first | (go_size; done) | (simp; done) | (simp <;> omega))).trans (by go_simp)
          have z2 : w1.frozen? ⟨w.heap.size + 2, 1, none⟩ = false := (hb1.frozen (p := ⟨w.heap.size + 2, 1, none⟩) (by first | (go_size; done) | (simp; done) | (simp <;> omega))).trans (by go_simp)
          have l3 : w.heap.size + 2 < w1.heap.size := World.block_lt_of_cell? _ _ f1
          have hZ1 := hB1.size
          go_upto_region 2 with fail
          have hB2 : Below w1.heap.size w1 ((w1.alloc (Obj.cells #[Value.int .i64 a, Value.int .i64 b] 25)).alloc (Obj.cells #[Value.int .i64 c, Value.int .i64 d] 25)) := by repeat (first | exact Below.refl _ _ | refine Below.drew ?_ | refine below_drewN ?_ _ | refine Below.alloc ?_ (by (try simp only [World.size_alloc, World.size_drew, size_drewN, World.size_setCell]); omega) _ | refine Below.setCell ?_ (by (try dsimp only); omega) _)
          have f4 := later hB2 f1
          have z4 := laterF hB2 f1 z1
          have f5 := later hB2 f2
          have z5 := laterF hB2 f2 z2
          have f6 : ((w1.alloc (Obj.cells #[Value.int .i64 a, Value.int .i64 b] 25)).alloc (Obj.cells #[Value.int .i64 c, Value.int .i64 d] 25)).cell? ⟨w1.heap.size, 0, none⟩ = some (.int .i64 a) := by go_simp
          have f7 : ((w1.alloc (Obj.cells #[Value.int .i64 a, Value.int .i64 b] 25)).alloc (Obj.cells #[Value.int .i64 c, Value.int .i64 d] 25)).cell? ⟨w1.heap.size, 1, none⟩ = some (.int .i64 b) := by go_simp
          have f8 : ((w1.alloc (Obj.cells #[Value.int .i64 a, Value.int .i64 b] 25)).alloc (Obj.cells #[Value.int .i64 c, Value.int .i64 d] 25)).cell? ⟨w1.heap.size + 1, 0, none⟩ = some (.int .i64 c) := by go_simp
          have f9 : ((w1.alloc (Obj.cells #[Value.int .i64 a, Value.int .i64 b] 25)).alloc (Obj.cells #[Value.int .i64 c, Value.int .i64 d] 25)).cell? ⟨w1.heap.size + 1, 1, none⟩ = some (.int .i64 d) := by go_simp
          generalize ((w1.alloc (Obj.cells #[Value.int .i64 a, Value.int .i64 b] 25)).alloc (Obj.cells #[Value.int .i64 c, Value.int .i64 d] 25)) = w2 at hB2 f4 z4 f5 z5 f6 f7 f8 f9 ⊢
          have l10 : w.heap.size + 2 < w2.heap.size := World.block_lt_of_cell? _ _ f4
          have l11 : w1.heap.size < w2.heap.size := World.block_lt_of_cell? _ _ f6
          have l12 : w1.heap.size + 1 < w2.heap.size := World.block_lt_of_cell? _ _ f8
          have hW2 := bseq hB1 (hB2)
          have hZ2 := hW2.size
          have ew : IntKind.i64.wrap (-(dot a b c d)) = -(dot a b c d) := IntWalk.i64_in _ (by omega)
          have ew0 : IntKind.i64.wrap 0 = 0 := IntWalk.i64_in _ (by omega)
          go_wp2_with fail
          have HTS : Hid (∀ X : World, Below w2.heap.size w2 X → X.cell? ⟨w1.heap.size, 0, none⟩ = some (.int .i64 a) ∧ X.cell? ⟨w1.heap.size, 1, none⟩ = some (.int .i64 b) ∧ X.cell? ⟨w1.heap.size + 1, 0, none⟩ = some (.int .i64 c) ∧ X.cell? ⟨w1.heap.size + 1, 1, none⟩ = some (.int .i64 d)) := fun X hB => ⟨later hB f6, later hB f7, later hB f8, later hB f9⟩
          have HB0 : Hid (Below w2.heap.size w2 w2) := Below.refl _ _
          (try have n13 : ¬ w.heap.size + 2 = w1.heap.size := (by omega))
          (try have n14 : ¬ w.heap.size + 2 = w1.heap.size + 1 := (by omega))
          (try have n15 : ¬ w.heap.size + 1 = w1.heap.size := (by omega))
          (try have n16 : ¬ w1.heap.size = w.heap.size + 2 := (by omega))
          (try have n17 : ¬ w1.heap.size + 1 = w.heap.size + 2 := (by omega))
          (try have n18 : ¬ w1.heap.size = w.heap.size + 1 := (by omega))
          go_region_held3 (fun w9 => w9.cell? ⟨w1.heap.size, 0, none⟩ = some (.int .i64 a) ∧ w9.cell? ⟨w1.heap.size, 1, none⟩ = some (.int .i64 b) ∧ w9.cell? ⟨w1.heap.size + 1, 0, none⟩ = some (.int .i64 c) ∧ w9.cell? ⟨w1.heap.size + 1, 1, none⟩ = some (.int .i64 d)) (first | with_reducible assumption | (focus (refine HTS.out _ ?_; (repeat (first | assumption | exact Below.refl _ _ | refine Below.drew ?_ | refine below_drewN ?_ _ | (refine Below.alloc ?_ ?_ _; rotate_left; ((try simp only [World.size_alloc, World.size_drew, size_drewN, World.size_setCell]); omega)) | (refine Below.setCell ?_ ?_ _; rotate_left; ((try dsimp only); omega)))); done)) | go_keep) (first | (go_at_call 95; refine (iDot_any _ _ _ _ _).mono ?_; rintro en wx ⟨rfl, hb⟩; have hB9 : Below w2.heap.size w2 wx := Below.trans (b := _) (by first | assumption | (repeat (first | assumption | exact Below.refl _ _ | refine Below.drew ?_ | refine below_drewN ?_ _ | refine Below.alloc ?_ (by (try simp only [World.size_alloc, World.size_drew, size_drewN, World.size_setCell]); omega) _ | refine Below.setCell ?_ (by (try dsimp only); omega) _))) (hb.mono (by (try simp only [World.size_alloc, World.size_drew, size_drewN, World.size_setCell]); omega)); have hz9 := hB9.size; clear hb; have r0 : wx.cell? ⟨w.heap.size + 2, 0, none⟩ = some (.int .i64 0) := later hB9 f4; have rz0 : wx.frozen? ⟨w.heap.size + 2, 0, none⟩ = false := laterF hB9 f4 z4; have r1 : wx.cell? ⟨w.heap.size + 2, 1, none⟩ = some (.int .i64 0) := later hB9 f5; have rz1 : wx.frozen? ⟨w.heap.size + 2, 1, none⟩ = false := laterF hB9 f5 z5; have r2 : wx.cell? ⟨w1.heap.size, 0, none⟩ = some (.int .i64 a) := later hB9 f6; have r3 : wx.cell? ⟨w1.heap.size, 1, none⟩ = some (.int .i64 b) := later hB9 f7; have r4 : wx.cell? ⟨w1.heap.size + 1, 0, none⟩ = some (.int .i64 c) := later hB9 f8; have r5 : wx.cell? ⟨w1.heap.size + 1, 1, none⟩ = some (.int .i64 d) := later hB9 f9) | (go_at_call 103; refine (iRatio_any _ _ _ _ (by omega) (by omega) (by omega)).mono ?_; rintro en wx ⟨rfl, hb⟩; have hB9 : Below w2.heap.size w2 wx := Below.trans (b := _) (by first | assumption | (repeat (first | assumption | exact Below.refl _ _ | refine Below.drew ?_ | refine below_drewN ?_ _ | refine Below.alloc ?_ (by (try simp only [World.size_alloc, World.size_drew, size_drewN, World.size_setCell]); omega) _ | refine Below.setCell ?_ (by (try dsimp only); omega) _))) (hb.mono (by (try simp only [World.size_alloc, World.size_drew, size_drewN, World.size_setCell]); omega)); have hz9 := hB9.size; clear hb; have r0 : wx.cell? ⟨w.heap.size + 2, 0, none⟩ = some (.int .i64 0) := later hB9 f4; have rz0 : wx.frozen? ⟨w.heap.size + 2, 0, none⟩ = false := laterF hB9 f4 z4; have r1 : wx.cell? ⟨w.heap.size + 2, 1, none⟩ = some (.int .i64 0) := later hB9 f5; have rz1 : wx.frozen? ⟨w.heap.size + 2, 1, none⟩ = false := laterF hB9 f5 z5; have r2 : wx.cell? ⟨w1.heap.size, 0, none⟩ = some (.int .i64 a) := later hB9 f6; have r3 : wx.cell? ⟨w1.heap.size, 1, none⟩ = some (.int .i64 b) := later hB9 f7; have r4 : wx.cell? ⟨w1.heap.size + 1, 0, none⟩ = some (.int .i64 c) := later hB9 f8; have r5 : wx.cell? ⟨w1.heap.size + 1, 1, none⟩ = some (.int .i64 d) := later hB9 f9))
          all_goals (have hB3 : Below w2.heap.size w2 wx := (by assumption); have hW3 := bseq hB1 (bseq hB2 (hB3)); have hZ3 := hW3.size; go_wp2; refine bodyPost_ret (v := .tuple #[.agg #[.int .i64 (ctX a b c d), .int .i64 (ctY a b c d)], .int .i64 (ctC a b c d)]) (by rw [HV.out.1, HV.out.2.1, HV.out.2.2]; simp [results, Try.results56, go_sem, r0, r1, r2, r3, r4, r5, rz0, rz1, l10, Nat.ne_of_lt l10, l11, Nat.ne_of_lt l11, l12, Nat.ne_of_lt l12]) rfl ⟨rfl, by have hx := hW3; first | (go_grown; done) | (repeat (first | exact hx | exact Below.refl _ _ | refine Below.drew ?_ | refine below_drewN ?_ _ | refine Below.alloc ?_ (by (try simp only [World.size_alloc, World.size_drew, size_drewN, World.size_setCell]); omega) _ | refine Below.setCell ?_ (by (try dsimp only); omega) _); done) | exact below_drewN (by go_grown) _⟩)
      · have t2 : dot a b c d = 0 := t1.symm
        clear t1
        have HV : Hid (ctX a b c d = ratX 0 (dot c d c d) ∧ ctY a b c d = ratY 0 (dot c d c d) ∧ ctC a b c d = ratC 0 (dot c d c d) 3) := by
          show _ ∧ _ ∧ _; unfold ctX ctY ctC; rw [HZ, tmT_pos t0]; exact ⟨rfl, rfl, rfl⟩
        clear HZ
        by_cases c0 : c = 0
        · subst c0
          have d0 : ¬ d = 0 := fun h => z0 ⟨rfl, h⟩
          clear z0
          go_enter Try.func56, Try.ntmps56
          go_wp2_with fail
          refine (rel4_any _ _ _ _ _ _ _ _ a b 0 d _ (by assumption) HA HB HC HD).mono ?_
          rintro en w1 ⟨rfl, hb1⟩
          have hB1 : Below w.heap.size w w1 := by first | exact hb1 | exact Below.trans (by repeat (first | exact Below.refl _ _ | refine Below.drew ?_ | refine below_drewN ?_ _ | refine Below.alloc ?_ (by (try simp only [World.size_alloc, World.size_drew, size_drewN, World.size_setCell]); omega) _ | refine Below.setCell ?_ (by (try dsimp only); omega) _)) (hb1.mono (by (try simp only [World.size_alloc, World.size_drew, size_drewN, World.size_setCell]); omega))
          have f1 : w1.cell? ⟨w.heap.size + 2, 0, none⟩ = some (.int .i64 0) := (hb1.cell (p := ⟨w.heap.size + 2, 0, none⟩) (by first | (go_size; done) | (simp; done) | (simp <;> omega))).trans (by go_simp)
          have z1 : w1.frozen? ⟨w.heap.size + 2, 0, none⟩ = false := (hb1.frozen (p := ⟨w.heap.size + 2, 0, none⟩) (by first | (go_size; done) | (simp; done) | (simp <;> omega))).trans (by go_simp)
          have f2 : w1.cell? ⟨w.heap.size + 2, 1, none⟩ = some (.int .i64 0) := (hb1.cell (p := ⟨w.heap.size + 2, 1, none⟩) (by first | (go_size; done) | (simp; done) | (simp <;> omega))).trans (by go_simp)
          have z2 : w1.frozen? ⟨w.heap.size + 2, 1, none⟩ = false := (hb1.frozen (p := ⟨w.heap.size + 2, 1, none⟩) (by first | (go_size; done) | (simp; done) | (simp <;> omega))).trans (by go_simp)
          have l3 : w.heap.size + 2 < w1.heap.size := World.block_lt_of_cell? _ _ f1
          have hZ1 := hB1.size
          go_upto_region 2 with fail
          have hB2 : Below w1.heap.size w1 ((w1.alloc (Obj.cells #[Value.int .i64 a, Value.int .i64 b] 25)).alloc (Obj.cells #[Value.int .i64 0, Value.int .i64 d] 25)) := by repeat (first | exact Below.refl _ _ | refine Below.drew ?_ | refine below_drewN ?_ _ | refine Below.alloc ?_ (by (try simp only [World.size_alloc, World.size_drew, size_drewN, World.size_setCell]); omega) _ | refine Below.setCell ?_ (by (try dsimp only); omega) _)
          have f4 := later hB2 f1
          have z4 := laterF hB2 f1 z1
          have f5 := later hB2 f2
          have z5 := laterF hB2 f2 z2
          have f6 : ((w1.alloc (Obj.cells #[Value.int .i64 a, Value.int .i64 b] 25)).alloc (Obj.cells #[Value.int .i64 0, Value.int .i64 d] 25)).cell? ⟨w1.heap.size, 0, none⟩ = some (.int .i64 a) := by go_simp
          have f7 : ((w1.alloc (Obj.cells #[Value.int .i64 a, Value.int .i64 b] 25)).alloc (Obj.cells #[Value.int .i64 0, Value.int .i64 d] 25)).cell? ⟨w1.heap.size, 1, none⟩ = some (.int .i64 b) := by go_simp
          have f8 : ((w1.alloc (Obj.cells #[Value.int .i64 a, Value.int .i64 b] 25)).alloc (Obj.cells #[Value.int .i64 0, Value.int .i64 d] 25)).cell? ⟨w1.heap.size + 1, 0, none⟩ = some (.int .i64 0) := by go_simp
          have f9 : ((w1.alloc (Obj.cells #[Value.int .i64 a, Value.int .i64 b] 25)).alloc (Obj.cells #[Value.int .i64 0, Value.int .i64 d] 25)).cell? ⟨w1.heap.size + 1, 1, none⟩ = some (.int .i64 d) := by go_simp
          generalize ((w1.alloc (Obj.cells #[Value.int .i64 a, Value.int .i64 b] 25)).alloc (Obj.cells #[Value.int .i64 0, Value.int .i64 d] 25)) = w2 at hB2 f4 z4 f5 z5 f6 f7 f8 f9 ⊢
          have l10 : w.heap.size + 2 < w2.heap.size := World.block_lt_of_cell? _ _ f4
          have l11 : w1.heap.size < w2.heap.size := World.block_lt_of_cell? _ _ f6
          have l12 : w1.heap.size + 1 < w2.heap.size := World.block_lt_of_cell? _ _ f8
          have hW2 := bseq hB1 (hB2)
          have hZ2 := hW2.size
          have ew : IntKind.i64.wrap (-(dot a b 0 d)) = -(dot a b 0 d) := IntWalk.i64_in _ (by omega)
          have ew0 : IntKind.i64.wrap 0 = 0 := IntWalk.i64_in _ (by omega)
          go_wp2_with fail
          have HTS : Hid (∀ X : World, Below w2.heap.size w2 X → X.cell? ⟨w1.heap.size, 0, none⟩ = some (.int .i64 a) ∧ X.cell? ⟨w1.heap.size, 1, none⟩ = some (.int .i64 b) ∧ X.cell? ⟨w1.heap.size + 1, 0, none⟩ = some (.int .i64 0) ∧ X.cell? ⟨w1.heap.size + 1, 1, none⟩ = some (.int .i64 d)) := fun X hB => ⟨later hB f6, later hB f7, later hB f8, later hB f9⟩
          have HB0 : Hid (Below w2.heap.size w2 w2) := Below.refl _ _
          (try have n13 : ¬ w.heap.size + 2 = w1.heap.size := (by omega))
          (try have n14 : ¬ w.heap.size + 2 = w1.heap.size + 1 := (by omega))
          (try have n15 : ¬ w.heap.size + 1 = w1.heap.size := (by omega))
          (try have n16 : ¬ w1.heap.size = w.heap.size + 2 := (by omega))
          (try have n17 : ¬ w1.heap.size + 1 = w.heap.size + 2 := (by omega))
          (try have n18 : ¬ w1.heap.size = w.heap.size + 1 := (by omega))
          go_region_held3 (fun w9 => w9.cell? ⟨w1.heap.size, 0, none⟩ = some (.int .i64 a) ∧ w9.cell? ⟨w1.heap.size, 1, none⟩ = some (.int .i64 b) ∧ w9.cell? ⟨w1.heap.size + 1, 0, none⟩ = some (.int .i64 0) ∧ w9.cell? ⟨w1.heap.size + 1, 1, none⟩ = some (.int .i64 d)) (first | with_reducible assumption | (focus (refine HTS.out _ ?_; (repeat (first | assumption | exact Below.refl _ _ | refine Below.drew ?_ | refine below_drewN ?_ _ | (refine Below.alloc ?_ ?_ _; rotate_left; ((try simp only [World.size_alloc, World.size_drew, size_drewN, World.size_setCell]); omega)) | (refine Below.setCell ?_ ?_ _; rotate_left; ((try dsimp only); omega)))); done)) | go_keep) (first | (go_at_call 95; refine (iDot_any _ _ _ _ _).mono ?_; rintro en wx ⟨rfl, hb⟩; have hB9 : Below w2.heap.size w2 wx := Below.trans (b := _) (by first | assumption | (repeat (first | assumption | exact Below.refl _ _ | refine Below.drew ?_ | refine below_drewN ?_ _ | refine Below.alloc ?_ (by (try simp only [World.size_alloc, World.size_drew, size_drewN, World.size_setCell]); omega) _ | refine Below.setCell ?_ (by (try dsimp only); omega) _))) (hb.mono (by (try simp only [World.size_alloc, World.size_drew, size_drewN, World.size_setCell]); omega)); have hz9 := hB9.size; clear hb; have r0 : wx.cell? ⟨w.heap.size + 2, 0, none⟩ = some (.int .i64 0) := later hB9 f4; have rz0 : wx.frozen? ⟨w.heap.size + 2, 0, none⟩ = false := laterF hB9 f4 z4; have r1 : wx.cell? ⟨w.heap.size + 2, 1, none⟩ = some (.int .i64 0) := later hB9 f5; have rz1 : wx.frozen? ⟨w.heap.size + 2, 1, none⟩ = false := laterF hB9 f5 z5; have r2 : wx.cell? ⟨w1.heap.size, 0, none⟩ = some (.int .i64 a) := later hB9 f6; have r3 : wx.cell? ⟨w1.heap.size, 1, none⟩ = some (.int .i64 b) := later hB9 f7; have r4 : wx.cell? ⟨w1.heap.size + 1, 0, none⟩ = some (.int .i64 0) := later hB9 f8; have r5 : wx.cell? ⟨w1.heap.size + 1, 1, none⟩ = some (.int .i64 d) := later hB9 f9) | (go_at_call 103; refine (iRatio_any _ _ _ _ (by omega) (by omega) (by omega)).mono ?_; rintro en wx ⟨rfl, hb⟩; have hB9 : Below w2.heap.size w2 wx := Below.trans (b := _) (by first | assumption | (repeat (first | assumption | exact Below.refl _ _ | refine Below.drew ?_ | refine below_drewN ?_ _ | refine Below.alloc ?_ (by (try simp only [World.size_alloc, World.size_drew, size_drewN, World.size_setCell]); omega) _ | refine Below.setCell ?_ (by (try dsimp only); omega) _))) (hb.mono (by (try simp only [World.size_alloc, World.size_drew, size_drewN, World.size_setCell]); omega)); have hz9 := hB9.size; clear hb; have r0 : wx.cell? ⟨w.heap.size + 2, 0, none⟩ = some (.int .i64 0) := later hB9 f4; have rz0 : wx.frozen? ⟨w.heap.size + 2, 0, none⟩ = false := laterF hB9 f4 z4; have r1 : wx.cell? ⟨w.heap.size + 2, 1, none⟩ = some (.int .i64 0) := later hB9 f5; have rz1 : wx.frozen? ⟨w.heap.size + 2, 1, none⟩ = false := laterF hB9 f5 z5; have r2 : wx.cell? ⟨w1.heap.size, 0, none⟩ = some (.int .i64 a) := later hB9 f6; have r3 : wx.cell? ⟨w1.heap.size, 1, none⟩ = some (.int .i64 b) := later hB9 f7; have r4 : wx.cell? ⟨w1.heap.size + 1, 0, none⟩ = some (.int .i64 0) := later hB9 f8; have r5 : wx.cell? ⟨w1.heap.size + 1, 1, none⟩ = some (.int .i64 d) := later hB9 f9))
          all_goals (have hB3 : Below w2.heap.size w2 wx := (by assumption); have hW3 := bseq hB1 (bseq hB2 (hB3)); have hZ3 := hW3.size; go_wp2; refine bodyPost_ret (v := .tuple #[.agg #[.int .i64 (ctX a b 0 d), .int .i64 (ctY a b 0 d)], .int .i64 (ctC a b 0 d)]) (by rw [HV.out.1, HV.out.2.1, HV.out.2.2]; simp [results, Try.results56, go_sem, r0, r1, r2, r3, r4, r5, rz0, rz1, l10, Nat.ne_of_lt l10, l11, Nat.ne_of_lt l11, l12, Nat.ne_of_lt l12]) rfl ⟨rfl, by have hx := hW3; first | (go_grown; done) | (repeat (first | exact hx | exact Below.refl _ _ | refine Below.drew ?_ | refine below_drewN ?_ _ | refine Below.alloc ?_ (by (try simp only [World.size_alloc, World.size_drew, size_drewN, World.size_setCell]); omega) _ | refine Below.setCell ?_ (by (try dsimp only); omega) _); done) | exact below_drewN (by go_grown) _⟩)
        · clear z0
          go_enter Try.func56, Try.ntmps56
          go_wp2_with fail
          refine (rel4_any _ _ _ _ _ _ _ _ a b c d _ (by assumption) HA HB HC HD).mono ?_
          rintro en w1 ⟨rfl, hb1⟩
          have hB1 : Below w.heap.size w w1 := by first | exact hb1 | exact Below.trans (by repeat (first | exact Below.refl _ _ | refine Below.drew ?_ | refine below_drewN ?_ _ | refine Below.alloc ?_ (by (try simp only [World.size_alloc, World.size_drew, size_drewN, World.size_setCell]); omega) _ | refine Below.setCell ?_ (by (try dsimp only); omega) _)) (hb1.mono (by (try simp only [World.size_alloc, World.size_drew, size_drewN, World.size_setCell]); omega))
          have f1 : w1.cell? ⟨w.heap.size + 2, 0, none⟩ = some (.int .i64 0) := (hb1.cell (p := ⟨w.heap.size + 2, 0, none⟩) (by first | (go_size; done) | (simp; done) | (simp <;> omega))).trans (by go_simp)
          have z1 : w1.frozen? ⟨w.heap.size + 2, 0, none⟩ = false := (hb1.frozen (p := ⟨w.heap.size + 2, 0, none⟩) (by first | (go_size; done) | (simp; done) | (simp <;> omega))).trans (by go_simp)
          have f2 : w1.cell? ⟨w.heap.size + 2, 1, none⟩ = some (.int .i64 0) := (hb1.cell (p := ⟨w.heap.size + 2, 1, none⟩) (by first | (go_size; done) | (simp; done) | (simp <;> omega))).trans (by go_simp)
          have z2 : w1.frozen? ⟨w.heap.size + 2, 1, none⟩ = false := (hb1.frozen (p := ⟨w.heap.size + 2, 1, none⟩) (by first | (go_size; done) | (simp; done) | (simp <;> omega))).trans (by go_simp)
          have l3 : w.heap.size + 2 < w1.heap.size := World.block_lt_of_cell? _ _ f1
          have hZ1 := hB1.size
          go_upto_region 2 with fail
          have hB2 : Below w1.heap.size w1 ((w1.alloc (Obj.cells #[Value.int .i64 a, Value.int .i64 b] 25)).alloc (Obj.cells #[Value.int .i64 c, Value.int .i64 d] 25)) := by repeat (first | exact Below.refl _ _ | refine Below.drew ?_ | refine below_drewN ?_ _ | refine Below.alloc ?_ (by (try simp only [World.size_alloc, World.size_drew, size_drewN, World.size_setCell]); omega) _ | refine Below.setCell ?_ (by (try dsimp only); omega) _)
          have f4 := later hB2 f1
          have z4 := laterF hB2 f1 z1
          have f5 := later hB2 f2
          have z5 := laterF hB2 f2 z2
          have f6 : ((w1.alloc (Obj.cells #[Value.int .i64 a, Value.int .i64 b] 25)).alloc (Obj.cells #[Value.int .i64 c, Value.int .i64 d] 25)).cell? ⟨w1.heap.size, 0, none⟩ = some (.int .i64 a) := by go_simp
          have f7 : ((w1.alloc (Obj.cells #[Value.int .i64 a, Value.int .i64 b] 25)).alloc (Obj.cells #[Value.int .i64 c, Value.int .i64 d] 25)).cell? ⟨w1.heap.size, 1, none⟩ = some (.int .i64 b) := by go_simp
          have f8 : ((w1.alloc (Obj.cells #[Value.int .i64 a, Value.int .i64 b] 25)).alloc (Obj.cells #[Value.int .i64 c, Value.int .i64 d] 25)).cell? ⟨w1.heap.size + 1, 0, none⟩ = some (.int .i64 c) := by go_simp
          have f9 : ((w1.alloc (Obj.cells #[Value.int .i64 a, Value.int .i64 b] 25)).alloc (Obj.cells #[Value.int .i64 c, Value.int .i64 d] 25)).cell? ⟨w1.heap.size + 1, 1, none⟩ = some (.int .i64 d) := by go_simp
          generalize ((w1.alloc (Obj.cells #[Value.int .i64 a, Value.int .i64 b] 25)).alloc (Obj.cells #[Value.int .i64 c, Value.int .i64 d] 25)) = w2 at hB2 f4 z4 f5 z5 f6 f7 f8 f9 ⊢
          have l10 : w.heap.size + 2 < w2.heap.size := World.block_lt_of_cell? _ _ f4
          have l11 : w1.heap.size < w2.heap.size := World.block_lt_of_cell? _ _ f6
          have l12 : w1.heap.size + 1 < w2.heap.size := World.block_lt_of_cell? _ _ f8
          have hW2 := bseq hB1 (hB2)
          have hZ2 := hW2.size
          have ew : IntKind.i64.wrap (-(dot a b c d)) = -(dot a b c d) := IntWalk.i64_in _ (by omega)
          have ew0 : IntKind.i64.wrap 0 = 0 := IntWalk.i64_in _ (by omega)
          go_wp2_with fail
          have HTS : Hid (∀ X : World, Below w2.heap.size w2 X → X.cell? ⟨w1.heap.size, 0, none⟩ = some (.int .i64 a) ∧ X.cell? ⟨w1.heap.size, 1, none⟩ = some (.int .i64 b) ∧ X.cell? ⟨w1.heap.size + 1, 0, none⟩ = some (.int .i64 c) ∧ X.cell? ⟨w1.heap.size + 1, 1, none⟩ = some (.int .i64 d)) := fun X hB => ⟨later hB f6, later hB f7, later hB f8, later hB f9⟩
          have HB0 : Hid (Below w2.heap.size w2 w2) := Below.refl _ _
          (try have n13 : ¬ w.heap.size + 2 = w1.heap.size := (by omega))
          (try have n14 : ¬ w.heap.size + 2 = w1.heap.size + 1 := (by omega))
          (try have n15 : ¬ w.heap.size + 1 = w1.heap.size := (by omega))
          (try have n16 : ¬ w1.heap.size = w.heap.size + 2 := (by omega))
          (try have n17 : ¬ w1.heap.size + 1 = w.heap.size + 2 := (by omega))
          (try have n18 : ¬ w1.heap.size = w.heap.size + 1 := (by omega))
          go_region_held3 (fun w9 => w9.cell? ⟨w1.heap.size, 0, none⟩ = some (.int .i64 a) ∧ w9.cell? ⟨w1.heap.size, 1, none⟩ = some (.int .i64 b) ∧ w9.cell? ⟨w1.heap.size + 1, 0, none⟩ = some (.int .i64 c) ∧ w9.cell? ⟨w1.heap.size + 1, 1, none⟩ = some (.int .i64 d)) (first | with_reducible assumption | (focus (refine HTS.out _ ?_; (repeat (first | assumption | exact Below.refl _ _ | refine Below.drew ?_ | refine below_drewN ?_ _ | (refine Below.alloc ?_ ?_ _; rotate_left; ((try simp only [World.size_alloc, World.size_drew, size_drewN, World.size_setCell]); omega)) | (refine Below.setCell ?_ ?_ _; rotate_left; ((try dsimp only); omega)))); done)) | go_keep) (first | (go_at_call 95; refine (iDot_any _ _ _ _ _).mono ?_; rintro en wx ⟨rfl, hb⟩; have hB9 : Below w2.heap.size w2 wx := Below.trans (b := _) (by first | assumption | (repeat (first | assumption | exact Below.refl _ _ | refine Below.drew ?_ | refine below_drewN ?_ _ | refine Below.alloc ?_ (by (try simp only [World.size_alloc, World.size_drew, size_drewN, World.size_setCell]); omega) _ | refine Below.setCell ?_ (by (try dsimp only); omega) _))) (hb.mono (by (try simp only [World.size_alloc, World.size_drew, size_drewN, World.size_setCell]); omega)); have hz9 := hB9.size; clear hb; have r0 : wx.cell? ⟨w.heap.size + 2, 0, none⟩ = some (.int .i64 0) := later hB9 f4; have rz0 : wx.frozen? ⟨w.heap.size + 2, 0, none⟩ = false := laterF hB9 f4 z4; have r1 : wx.cell? ⟨w.heap.size + 2, 1, none⟩ = some (.int .i64 0) := later hB9 f5; have rz1 : wx.frozen? ⟨w.heap.size + 2, 1, none⟩ = false := laterF hB9 f5 z5; have r2 : wx.cell? ⟨w1.heap.size, 0, none⟩ = some (.int .i64 a) := later hB9 f6; have r3 : wx.cell? ⟨w1.heap.size, 1, none⟩ = some (.int .i64 b) := later hB9 f7; have r4 : wx.cell? ⟨w1.heap.size + 1, 0, none⟩ = some (.int .i64 c) := later hB9 f8; have r5 : wx.cell? ⟨w1.heap.size + 1, 1, none⟩ = some (.int .i64 d) := later hB9 f9) | (go_at_call 103; refine (iRatio_any _ _ _ _ (by omega) (by omega) (by omega)).mono ?_; rintro en wx ⟨rfl, hb⟩; have hB9 : Below w2.heap.size w2 wx := Below.trans (b := _) (by first | assumption | (repeat (first | assumption | exact Below.refl _ _ | refine Below.drew ?_ | refine below_drewN ?_ _ | refine Below.alloc ?_ (by (try simp only [World.size_alloc, World.size_drew, size_drewN, World.size_setCell]); omega) _ | refine Below.setCell ?_ (by (try dsimp only); omega) _))) (hb.mono (by (try simp only [World.size_alloc, World.size_drew, size_drewN, World.size_setCell]); omega)); have hz9 := hB9.size; clear hb; have r0 : wx.cell? ⟨w.heap.size + 2, 0, none⟩ = some (.int .i64 0) := later hB9 f4; have rz0 : wx.frozen? ⟨w.heap.size + 2, 0, none⟩ = false := laterF hB9 f4 z4; have r1 : wx.cell? ⟨w.heap.size + 2, 1, none⟩ = some (.int .i64 0) := later hB9 f5; have rz1 : wx.frozen? ⟨w.heap.size + 2, 1, none⟩ = false := laterF hB9 f5 z5; have r2 : wx.cell? ⟨w1.heap.size, 0, none⟩ = some (.int .i64 a) := later hB9 f6; have r3 : wx.cell? ⟨w1.heap.size, 1, none⟩ = some (.int .i64 b) := later hB9 f7; have r4 : wx.cell? ⟨w1.heap.size + 1, 0, none⟩ = some (.int .i64 c) := later hB9 f8; have r5 : wx.cell? ⟨w1.heap.size + 1, 1, none⟩ = some (.int .i64 d) := later hB9 f9))
          all_goals (have hB3 : Below w2.heap.size w2 wx := (by assumption); have hW3 := bseq hB1 (bseq hB2 (hB3)); have hZ3 := hW3.size; go_wp2; refine bodyPost_ret (v := .tuple #[.agg #[.int .i64 (ctX a b c d), .int .i64 (ctY a b c d)], .int .i64 (ctC a b c d)]) (by rw [HV.out.1, HV.out.2.1, HV.out.2.2]; simp [results, Try.results56, go_sem, r0, r1, r2, r3, r4, r5, rz0, rz1, l10, Nat.ne_of_lt l10, l11, Nat.ne_of_lt l11, l12, Nat.ne_of_lt l12]) rfl ⟨rfl, by have hx := hW3; first | (go_grown; done) | (repeat (first | exact hx | exact Below.refl _ _ | refine Below.drew ?_ | refine below_drewN ?_ _ | refine Below.alloc ?_ (by (try simp only [World.size_alloc, World.size_drew, size_drewN, World.size_setCell]); omega) _ | refine Below.setCell ?_ (by (try dsimp only); omega) _); done) | exact below_drewN (by go_grown) _⟩)

set_option maxHeartbeats 8000000 in
theorem iCT_any (p q r s t u v z : Int) (w : World) :
    Calls Try.prog 56 #[.agg #[.int .i64 p, .int .i64 q, .int .i64 r, .int .i64 s], .agg #[.int .i64 t, .int .i64 u, .int .i64 v, .int .i64 z]] w fun en w9 => en = .returned (.tuple #[.agg #[.int .i64 (onTr ctX 0 p q r s t u v z), .int .i64 (onTr ctY 0 p q r s t u v z)], .int .i64 (onTr ctC 1 p q r s t u v z)]) ∧ Below w.heap.size w w9 := by
  rcases Bool.eq_false_or_eq_true (trk2 p q r s t u v z) with h1 | h1
  · obtain ⟨a, b, c, d, HA, HB, HC, HD, ba, bb, bc, bd⟩ := diffs h1
    have HM : onTr ctX 0 p q r s t u v z = ctX a b c d ∧ onTr ctY 0 p q r s t u v z = ctY a b c d ∧ onTr ctC 1 p q r s t u v z = ctC a b c d := by rw [← HA.out, ← HB.out, ← HC.out, ← HD.out]; simp [onTr, h1]
    rw [HM.1, HM.2.1, HM.2.2]
    exact iCTYes_any p q r s t u v z a b c d w h1 HA HB HC HD ba bb bc bd
  · have HV : Hid (onTr ctX 0 p q r s t u v z = 0 ∧ onTr ctY 0 p q r s t u v z = 0 ∧ onTr ctC 1 p q r s t u v z = 1) := by show _ ∧ _ ∧ _; simp [onTr, h1]
    go_enter Try.func56, Try.ntmps56
    go_wp2_with fail
    refine (relNo_any _ _ _ _ _ _ _ _ _ (by assumption)).mono ?_
    rintro en w1 ⟨rfl, hb1⟩
    have hB1 : Below w.heap.size w w1 := by first | exact hb1 | exact Below.trans (by repeat (first | exact Below.refl _ _ | refine Below.drew ?_ | refine below_drewN ?_ _ | refine Below.alloc ?_ (by (try simp only [World.size_alloc, World.size_drew, size_drewN, World.size_setCell]); omega) _ | refine Below.setCell ?_ (by (try dsimp only); omega) _)) (hb1.mono (by (try simp only [World.size_alloc, World.size_drew, size_drewN, World.size_setCell]); omega))
    have f1 : w1.cell? ⟨w.heap.size + 2, 0, none⟩ = some (.int .i64 0) := (hb1.cell (p := ⟨w.heap.size + 2, 0, none⟩) (by first | (go_size; done) | (simp; done) | (simp <;> omega))).trans (by go_simp)
    have z1 : w1.frozen? ⟨w.heap.size + 2, 0, none⟩ = false := (hb1.frozen (p := ⟨w.heap.size + 2, 0, none⟩) (by first | (go_size; done) | (simp; done) | (simp <;> omega))).trans (by go_simp)
    have f2 : w1.cell? ⟨w.heap.size + 2, 1, none⟩ = some (.int .i64 0) := (hb1.cell (p := ⟨w.heap.size + 2, 1, none⟩) (by first | (go_size; done) | (simp; done) | (simp <;> omega))).trans (by go_simp)
    have z2 : w1.frozen? ⟨w.heap.size + 2, 1, none⟩ = false := (hb1.frozen (p := ⟨w.heap.size + 2, 1, none⟩) (by first | (go_size; done) | (simp; done) | (simp <;> omega))).trans (by go_simp)
    have l3 : w.heap.size + 2 < w1.heap.size := World.block_lt_of_cell? _ _ f1
    have hZ1 := hB1.size
    go_upto_region 2 with fail
    have hB2 : Below w1.heap.size w1 ((w1.alloc (Obj.cells #[Value.int .i64 0, Value.int .i64 0] 25)).alloc (Obj.cells #[Value.int .i64 0, Value.int .i64 0] 25)) := by repeat (first | exact Below.refl _ _ | refine Below.drew ?_ | refine below_drewN ?_ _ | refine Below.alloc ?_ (by (try simp only [World.size_alloc, World.size_drew, size_drewN, World.size_setCell]); omega) _ | refine Below.setCell ?_ (by (try dsimp only); omega) _)
    have f4 := later hB2 f1
    have z4 := laterF hB2 f1 z1
    have f5 := later hB2 f2
    have z5 := laterF hB2 f2 z2
    generalize ((w1.alloc (Obj.cells #[Value.int .i64 0, Value.int .i64 0] 25)).alloc (Obj.cells #[Value.int .i64 0, Value.int .i64 0] 25)) = w2 at hB2 f4 z4 f5 z5 ⊢
    have l6 : w.heap.size + 2 < w2.heap.size := World.block_lt_of_cell? _ _ f4
    have hW2 := bseq hB1 (hB2)
    have hZ2 := hW2.size
    go_wp2
    refine bodyPost_ret (v := .tuple #[.agg #[.int .i64 (onTr ctX 0 p q r s t u v z), .int .i64 (onTr ctY 0 p q r s t u v z)], .int .i64 (onTr ctC 1 p q r s t u v z)]) (by rw [HV.out.1, HV.out.2.1, HV.out.2.2]; simp [results, Try.results56, go_sem, f4, f5, z4, z5, l6, Nat.ne_of_lt l6]) rfl ⟨rfl, by have hx := hW2; first | (go_grown; done) | (repeat (first | exact hx | exact Below.refl _ _ | refine Below.drew ?_ | refine below_drewN ?_ _ | refine Below.alloc ?_ (by (try simp only [World.size_alloc, World.size_drew, size_drewN, World.size_setCell]); omega) _ | refine Below.setCell ?_ (by (try dsimp only); omega) _); done) | exact below_drewN (by go_grown) _⟩
end Go.Proofs.Ytoccglmlpobeeaa
