/- walks: two tracks, the program -/
import Derived.Test.YtoccglmlpobeeaaW5
import Derived.Test.YtoccglmlpobeeaaPlain3
import Derived.Lib.Hide
set_option linter.unusedVariables false
set_option linter.unusedSimpArgs false
namespace Go.Proofs.Ytoccglmlpobeeaa
open Go.RowKit

theorem trk2_no {p q r s t u v z : Int} (h : trk2 p q r s t u v z = false) : isTr p q r s = false ∨ (isTr p q r s = true ∧ isTr t u v z = false) := by
  cases h1 : isTr p q r s
  · exact .inl rfl
  · exact .inr ⟨rfl, by simpa [trk2, h1] using h⟩
theorem trk2_yes {p q r s t u v z : Int} (h : trk2 p q r s t u v z = true) : isTr p q r s = true ∧ isTr t u v z = true := by simpa [trk2] using h
def meets (a b c d : Int) : Bool := (a == 0 && b == 0) || (cross a b c d == 0 && decide (dot a b c d < 0))
def doMeet (p q r s t u v z : Int) : Bool := trk2 p q r s t u v z && meets (t - p) (u - q) (v - r) (z - s)
def trkCode (p q r s t u v z : Int) : Int := if trk2 p q r s t u v z then 0 else 1
def drift (p q r s t u v z k : Int) : Int := if trk2 p q r s t u v z && inR k 0 1000 then sgn (cross (v - r) (z - s) (t - p) (u - q)) else 0
def driftCode (p q r s t u v z k : Int) : Int := if trk2 p q r s t u v z then (if inR k 0 1000 then 0 else 2) else 1
theorem cross_shift (a b c d t : Int) : cross a b (c + t * a) (d + t * b) = cross a b c d := by
  unfold cross
  rw [wr_sub_l, wr_sub_r, wr_sub_l, wr_sub_r]
  congr 1
  rw [Int.mul_add, Int.mul_add, Int.mul_left_comm a t b, Int.mul_left_comm b t a, Int.mul_comm b a]
  omega
theorem dot_zero (a b : Int) : dot a b 0 0 = 0 := by unfold dot; simp [wrap64]
set_option maxHeartbeats 1000000 in
/-- the Go function impl.relative -/
theorem relNo_any (p q r s t u v z : Int) (w : World) (hok : trk2 p q r s t u v z = false) :
    Calls Try.prog 94 #[.agg #[.int .i64 p, .int .i64 q, .int .i64 r, .int .i64 s], .agg #[.int .i64 t, .int .i64 u, .int .i64 v, .int .i64 z]] w fun en w9 => en = .returned (.tuple #[.agg #[.int .i64 0, .int .i64 0], .agg #[.int .i64 0, .int .i64 0], .int .i64 1]) ∧ Below w.heap.size w w9 := by
  rcases trk2_no hok with hk1 | ⟨hk1, hk2⟩
  all_goals clear hok
  all_goals (go_enter Try.func94, Try.ntmps94)
  all_goals go_wp2_with (first | (go_at_call 96; refine (iTrack_any _ _ _ _ _).mono ?_; rintro en w1 ⟨rfl, hb⟩; (first | ((with_reducible replace hS := keep_12_4 hb hS); clear hb) | (replace hS := keep_12_4 (Below.trans (by (go_grown; done)) (hb.mono (by (go_size; done)))) hS; clear hb) | ((with_reducible replace hS := keep_12_4 (Below.trans (Below.drew (Below.refl _ _)) hb) hS); clear hb) | (have hS : w1.cell? ⟨w.heap.size, 0, none⟩ = some (.int .i64 p) ∧ w1.cell? ⟨w.heap.size, 1, none⟩ = some (.int .i64 q) ∧ w1.cell? ⟨w.heap.size, 2, none⟩ = some (.int .i64 r) ∧ w1.cell? ⟨w.heap.size, 3, none⟩ = some (.int .i64 s) ∧ w1.cell? ⟨w.heap.size + 1, 0, none⟩ = some (.int .i64 t) ∧ w1.cell? ⟨w.heap.size + 1, 1, none⟩ = some (.int .i64 u) ∧ w1.cell? ⟨w.heap.size + 1, 2, none⟩ = some (.int .i64 v) ∧ w1.cell? ⟨w.heap.size + 1, 3, none⟩ = some (.int .i64 z) ∧ w1.cell? ⟨w.heap.size + 2, 0, none⟩ = some (.int .i64 0) ∧ w1.cell? ⟨w.heap.size + 2, 1, none⟩ = some (.int .i64 0) ∧ w1.cell? ⟨w.heap.size + 3, 0, none⟩ = some (.int .i64 0) ∧ w1.cell? ⟨w.heap.size + 3, 1, none⟩ = some (.int .i64 0) ∧ w1.frozen? ⟨w.heap.size + 2, 0, none⟩ = false ∧ w1.frozen? ⟨w.heap.size + 2, 1, none⟩ = false ∧ w1.frozen? ⟨w.heap.size + 3, 0, none⟩ = false ∧ w1.frozen? ⟨w.heap.size + 3, 1, none⟩ = false ∧ w.heap.size + 4 ≤ w1.heap.size ∧ Below w.heap.size w w1 := keep_12_4 hb ⟨by (simp [go_sem]; done), by (simp [go_sem]; done), by (simp [go_sem]; done), by (simp [go_sem]; done), by (simp [go_sem]; done), by (simp [go_sem]; done), by (simp [go_sem]; done), by (simp [go_sem]; done), by (simp [go_sem]; done), by (simp [go_sem]; done), by (simp [go_sem]; done), by (simp [go_sem]; done), by (simp [go_sem]; done), by (simp [go_sem]; done), by (simp [go_sem]; done), by (simp [go_sem]; done), by first | (simp; done) | (simp <;> omega), by (go_grown; done)⟩; clear hb))))
  all_goals refine bodyPost_ret (v := .tuple #[.agg #[.int .i64 0, .int .i64 0], .agg #[.int .i64 0, .int .i64 0], .int .i64 1]) (by simp [results, Try.results94, go_sem, hS]) rfl ⟨rfl, by first | (have hx := hS.2.2.2.2.2.2.2.2.2.2.2.2.2.2.2.2.2; have hz := hS.2.2.2.2.2.2.2.2.2.2.2.2.2.2.2.2.1; go_grown; done) | (have hx := hT.2.2.2.2.2.2.2.2.2.2.2.2.2.2.2.2.2; have hz := hT.2.2.2.2.2.2.2.2.2.2.2.2.2.2.2.2.1; go_grown; done) | go_grown⟩

set_option maxHeartbeats 4000000 in
theorem iDrift_any (p q r s t u v z k : Int) (w : World) :
    Calls Try.prog 46 #[.agg #[.int .i64 p, .int .i64 q, .int .i64 r, .int .i64 s], .agg #[.int .i64 t, .int .i64 u, .int .i64 v, .int .i64 z], .int .i64 k] w fun en w9 => en = .returned (.tuple #[.int .i64 (drift p q r s t u v z k), .int .i64 (driftCode p q r s t u v z k)]) ∧ Below w.heap.size w w9 := by
  rcases Bool.eq_false_or_eq_true (trk2 p q r s t u v z) with h1 | h1
  · rcases Bool.eq_false_or_eq_true (inR k 0 1000) with h2 | h2
    · have HV : Hid (drift p q r s t u v z k = sgn (cross (v - r) (z - s) (t - p) (u - q)) ∧ driftCode p q r s t u v z k = 0) := by show _ ∧ _; simp [drift, driftCode, h1, h2]
      go_enter Try.func46, Try.ntmps46
      go_wp2_with fail
      refine (relYes_any _ _ _ _ _ _ _ _ _ (by assumption)).mono ?_
      rintro en w1 ⟨rfl, hb1⟩
      have hB1 : Below w.heap.size w w1 := by first | exact hb1 | exact Below.trans (by (go_grown; done)) (hb1.mono (by (go_size; done)))
      have hZ1 := hB1.size
      go_wp2_with fail
      refine (within_any _ _ _ _).mono ?_
      rintro en wz ⟨rfl, rfl⟩
      go_wp2_with fail
      refine (iCross_any _ _ _ _ _).mono ?_
      rintro en w2 ⟨rfl, hb2⟩
      have hB2 : Below w1.heap.size w1 w2 := by first | exact hb2 | exact Below.trans (by (go_grown; done)) (hb2.mono (by (go_size; done)))
      have hW2 := bseq hB1 (hB2)
      have hZ2 := hW2.size
      go_wp2_with fail
      refine (iSign_any _ _).mono ?_
      rintro en wz ⟨rfl, rfl⟩
      go_wp2
      go_ret2
      exact ⟨by rw [HV.out.1, HV.out.2]; rfl, (by first | exact hW2 | (have hx := hW2; go_grown))⟩
    · have HV : Hid (drift p q r s t u v z k = 0 ∧ driftCode p q r s t u v z k = 2) := by show _ ∧ _; simp [drift, driftCode, h1, h2]
      go_enter Try.func46, Try.ntmps46
      go_wp2_with fail
      refine (relYes_any _ _ _ _ _ _ _ _ _ (by assumption)).mono ?_
      rintro en w1 ⟨rfl, hb1⟩
      have hB1 : Below w.heap.size w w1 := by first | exact hb1 | exact Below.trans (by (go_grown; done)) (hb1.mono (by (go_size; done)))
      have hZ1 := hB1.size
      go_wp2_with fail
      refine (within_any _ _ _ _).mono ?_
      rintro en wz ⟨rfl, rfl⟩
      go_wp2
      go_ret2
      exact ⟨by rw [HV.out.1, HV.out.2]; rfl, (by first | exact hB1 | (have hx := hB1; go_grown))⟩
  · have HV : Hid (drift p q r s t u v z k = 0 ∧ driftCode p q r s t u v z k = 1) := by show _ ∧ _; simp [drift, driftCode, h1]
    go_enter Try.func46, Try.ntmps46
    go_wp2_with fail
    refine (relNo_any _ _ _ _ _ _ _ _ _ (by assumption)).mono ?_
    rintro en w1 ⟨rfl, hb1⟩
    have hB1 : Below w.heap.size w w1 := by first | exact hb1 | exact Below.trans (by (go_grown; done)) (hb1.mono (by (go_size; done)))
    have hZ1 := hB1.size
    go_wp2
    go_ret2
    exact ⟨by rw [HV.out.1, HV.out.2]; rfl, (by first | exact hB1 | (have hx := hB1; go_grown))⟩

theorem rel4_any (p q r s t u v z a b c d : Int) (w : World) (hok : trk2 p q r s t u v z = true) (ha : Hid (t - p = a)) (hb : Hid (u - q = b)) (hc : Hid (v - r = c)) (hd : Hid (z - s = d)) :
    Calls Try.prog 94 #[.agg #[.int .i64 p, .int .i64 q, .int .i64 r, .int .i64 s], .agg #[.int .i64 t, .int .i64 u, .int .i64 v, .int .i64 z]] w fun en w9 => en = .returned (.tuple #[.agg #[.int .i64 a, .int .i64 b], .agg #[.int .i64 c, .int .i64 d], .int .i64 0]) ∧ Below w.heap.size w w9 := by
  have ha := ha.out; have hb := hb.out; have hc := hc.out; have hd := hd.out
  subst ha; subst hb; subst hc; subst hd
  exact relYes_any p q r s t u v z w hok
/-- the differences, each by a letter -/
theorem diffs {p q r s t u v z : Int} (h : trk2 p q r s t u v z = true) : ∃ a b c d : Int, Hid (t - p = a) ∧ Hid (u - q = b) ∧ Hid (v - r = c) ∧ Hid (z - s = d) ∧ (-200000 ≤ a ∧ a ≤ 200000) ∧ (-200000 ≤ b ∧ b ≤ 200000) ∧ (-2000 ≤ c ∧ c ≤ 2000) ∧ (-2000 ≤ d ∧ d ≤ 2000) := by
  obtain ⟨h1, h2⟩ := trk2_bd h
  unfold TrB at h1 h2
  exact ⟨_, _, _, _, rfl, rfl, rfl, rfl, by omega, by omega, by omega, by omega⟩

set_option maxHeartbeats 16000000 in
theorem iDo_any (p q r s t u v z : Int) (w : World) :
    Calls Try.prog 41 #[.agg #[.int .i64 p, .int .i64 q, .int .i64 r, .int .i64 s], .agg #[.int .i64 t, .int .i64 u, .int .i64 v, .int .i64 z]] w fun en w9 => en = .returned (.tuple #[.bool (doMeet p q r s t u v z), .int .i64 (trkCode p q r s t u v z)]) ∧ Below w.heap.size w w9 := by
  rcases Bool.eq_false_or_eq_true (trk2 p q r s t u v z) with h1 | h1
  · obtain ⟨a, b, c, d, HA, HB, HC, HD, ba, bb, bc, bd⟩ := diffs h1
    have HM : Hid (doMeet p q r s t u v z = meets a b c d ∧ trkCode p q r s t u v z = 0) := by show _ ∧ _; rw [← HA.out, ← HB.out, ← HC.out, ← HD.out]; simp [doMeet, trkCode, h1]
    by_cases a0 : a = 0
    · subst a0
      by_cases b0 : b = 0
      · subst b0
        have HV : Hid (doMeet p q r s t u v z = true ∧ trkCode p q r s t u v z = 0) := by show _ ∧ _; rw [HM.out.1, HM.out.2]; simp_all [meets, dot_zero]
        go_enter Try.func41, Try.ntmps41
        go_wp2_with fail
        refine (rel4_any _ _ _ _ _ _ _ _ 0 0 c d _ (by assumption) HA HB HC HD).mono ?_
        rintro en w1 ⟨rfl, hb1⟩
        have hB1 : Below w.heap.size w w1 := by first | exact hb1 | exact Below.trans (by (go_grown; done)) (hb1.mono (by (go_size; done)))
        have hZ1 := hB1.size
        go_wp2
        go_ret2
        exact ⟨by rw [HV.out.1, HV.out.2]; rfl, (by first | exact hB1 | (have hx := hB1; go_grown))⟩
      · have b1 : (b == 0) = false := by simpa using b0
        by_cases c0 : c = 0
        · subst c0
          by_cases d0 : d = 0
          · subst d0
            have HV : Hid (doMeet p q r s t u v z = false ∧ trkCode p q r s t u v z = 0) := by show _ ∧ _; rw [HM.out.1, HM.out.2]; simp_all [meets, dot_zero]
            go_enter Try.func41, Try.ntmps41
            go_wp2_with fail
            refine (rel4_any _ _ _ _ _ _ _ _ 0 b 0 0 _ (by assumption) HA HB HC HD).mono ?_
            rintro en w1 ⟨rfl, hb1⟩
            have hB1 : Below w.heap.size w w1 := by first | exact hb1 | exact Below.trans (by (go_grown; done)) (hb1.mono (by (go_size; done)))
            have hZ1 := hB1.size
            go_wp2
            go_ret2
            exact ⟨by rw [HV.out.1, HV.out.2]; rfl, (by first | exact hB1 | (have hx := hB1; go_grown))⟩
          · have d1 : (d == 0) = false := by simpa using d0
            rcases Bool.eq_false_or_eq_true (cross 0 b 0 d == 0) with x0 | x0
            · have HV : Hid (doMeet p q r s t u v z = decide (dot 0 b 0 d < 0) ∧ trkCode p q r s t u v z = 0) := by show _ ∧ _; rw [HM.out.1, HM.out.2]; simp_all [meets, dot_zero]
              go_enter Try.func41, Try.ntmps41
              go_wp2_with fail
              refine (rel4_any _ _ _ _ _ _ _ _ 0 b 0 d _ (by assumption) HA HB HC HD).mono ?_
              rintro en w1 ⟨rfl, hb1⟩
              have hB1 : Below w.heap.size w w1 := by first | exact hb1 | exact Below.trans (by (go_grown; done)) (hb1.mono (by (go_size; done)))
              have hZ1 := hB1.size
              go_wp2_with fail
              refine (iCross_any _ _ _ _ _).mono ?_
              rintro en w2 ⟨rfl, hb2⟩
              have hB2 : Below w1.heap.size w1 w2 := by first | exact hb2 | exact Below.trans (by (go_grown; done)) (hb2.mono (by (go_size; done)))
              have f1 : w2.cell? ⟨w1.heap.size, 0, none⟩ = some (.int .i64 0) := (hb2.cell (p := ⟨w1.heap.size, 0, none⟩) (by first | (go_size; done) | (simp; done) | (simp <;> omega))).trans (by go_simp)
              have f2 : w2.cell? ⟨w1.heap.size, 1, none⟩ = some (.int .i64 b) := (hb2.cell (p := ⟨w1.heap.size, 1, none⟩) (by first | (go_size; done) | (simp; done) | (simp <;> omega))).trans (by go_simp)
              have f3 : w2.cell? ⟨w1.heap.size + 1, 0, none⟩ = some (.int .i64 0) := (hb2.cell (p := ⟨w1.heap.size + 1, 0, none⟩) (by first | (go_size; done) | (simp; done) | (simp <;> omega))).trans (by go_simp)
              have f4 : w2.cell? ⟨w1.heap.size + 1, 1, none⟩ = some (.int .i64 d) := (hb2.cell (p := ⟨w1.heap.size + 1, 1, none⟩) (by first | (go_size; done) | (simp; done) | (simp <;> omega))).trans (by go_simp)
              have l5 : w1.heap.size < w2.heap.size := World.block_lt_of_cell? _ _ f1
              have l6 : w1.heap.size + 1 < w2.heap.size := World.block_lt_of_cell? _ _ f3
              have hW2 := bseq hB1 (hB2)
              have hZ2 := hW2.size
              go_wp2_with fail
              refine (iDot_any _ _ _ _ _).mono ?_
              rintro en w3 ⟨rfl, hb3⟩
              have hB3 : Below w2.heap.size w2 w3 := by first | exact hb3 | exact Below.trans (by (go_grown; done)) (hb3.mono (by (go_size; done)))
              have f7 := later hB3 f1
              have f8 := later hB3 f2
              have f9 := later hB3 f3
              have f10 := later hB3 f4
              have l11 : w1.heap.size < w3.heap.size := World.block_lt_of_cell? _ _ f7
              have l12 : w1.heap.size + 1 < w3.heap.size := World.block_lt_of_cell? _ _ f9
              have hW3 := bseq hB1 (bseq hB2 (hB3))
              have hZ3 := hW3.size
              go_wp2
              go_ret2
              exact ⟨by rw [HV.out.1, HV.out.2]; rfl, (by first | exact hW3 | (have hx := hW3; go_grown))⟩
            · have HV : Hid (doMeet p q r s t u v z = false ∧ trkCode p q r s t u v z = 0) := by show _ ∧ _; rw [HM.out.1, HM.out.2]; simp_all [meets, dot_zero]
              go_enter Try.func41, Try.ntmps41
              go_wp2_with fail
              refine (rel4_any _ _ _ _ _ _ _ _ 0 b 0 d _ (by assumption) HA HB HC HD).mono ?_
              rintro en w1 ⟨rfl, hb1⟩
              have hB1 : Below w.heap.size w w1 := by first | exact hb1 | exact Below.trans (by (go_grown; done)) (hb1.mono (by (go_size; done)))
              have hZ1 := hB1.size
              go_wp2_with fail
              refine (iCross_any _ _ _ _ _).mono ?_
              rintro en w2 ⟨rfl, hb2⟩
              have hB2 : Below w1.heap.size w1 w2 := by first | exact hb2 | exact Below.trans (by (go_grown; done)) (hb2.mono (by (go_size; done)))
              have f1 : w2.cell? ⟨w1.heap.size, 0, none⟩ = some (.int .i64 0) := (hb2.cell (p := ⟨w1.heap.size, 0, none⟩) (by first | (go_size; done) | (simp; done) | (simp <;> omega))).trans (by go_simp)
              have f2 : w2.cell? ⟨w1.heap.size, 1, none⟩ = some (.int .i64 b) := (hb2.cell (p := ⟨w1.heap.size, 1, none⟩) (by first | (go_size; done) | (simp; done) | (simp <;> omega))).trans (by go_simp)
              have f3 : w2.cell? ⟨w1.heap.size + 1, 0, none⟩ = some (.int .i64 0) := (hb2.cell (p := ⟨w1.heap.size + 1, 0, none⟩) (by first | (go_size; done) | (simp; done) | (simp <;> omega))).trans (by go_simp)
              have f4 : w2.cell? ⟨w1.heap.size + 1, 1, none⟩ = some (.int .i64 d) := (hb2.cell (p := ⟨w1.heap.size + 1, 1, none⟩) (by first | (go_size; done) | (simp; done) | (simp <;> omega))).trans (by go_simp)
              have l5 : w1.heap.size < w2.heap.size := World.block_lt_of_cell? _ _ f1
              have l6 : w1.heap.size + 1 < w2.heap.size := World.block_lt_of_cell? _ _ f3
              have hW2 := bseq hB1 (hB2)
              have hZ2 := hW2.size
              go_wp2
              go_ret2
              exact ⟨by rw [HV.out.1, HV.out.2]; rfl, (by first | exact hW2 | (have hx := hW2; go_grown))⟩
        · have c1 : (c == 0) = false := by simpa using c0
          rcases Bool.eq_false_or_eq_true (cross 0 b c d == 0) with x0 | x0
          · have HV : Hid (doMeet p q r s t u v z = decide (dot 0 b c d < 0) ∧ trkCode p q r s t u v z = 0) := by show _ ∧ _; rw [HM.out.1, HM.out.2]; simp_all [meets, dot_zero]
            go_enter Try.func41, Try.ntmps41
            go_wp2_with fail
            refine (rel4_any _ _ _ _ _ _ _ _ 0 b c d _ (by assumption) HA HB HC HD).mono ?_
            rintro en w1 ⟨rfl, hb1⟩
            have hB1 : Below w.heap.size w w1 := by first | exact hb1 | exact Below.trans (by (go_grown; done)) (hb1.mono (by (go_size; done)))
            have hZ1 := hB1.size
            go_wp2_with fail
            refine (iCross_any _ _ _ _ _).mono ?_
            rintro en w2 ⟨rfl, hb2⟩
            have hB2 : Below w1.heap.size w1 w2 := by first | exact hb2 | exact Below.trans (by (go_grown; done)) (hb2.mono (by (go_size; done)))
            have f1 : w2.cell? ⟨w1.heap.size, 0, none⟩ = some (.int .i64 0) := (hb2.cell (p := ⟨w1.heap.size, 0, none⟩) (by first | (go_size; done) | (simp; done) | (simp <;> omega))).trans (by go_simp)
            have f2 : w2.cell? ⟨w1.heap.size, 1, none⟩ = some (.int .i64 b) := (hb2.cell (p := ⟨w1.heap.size, 1, none⟩) (by first | (go_size; done) | (simp; done) | (simp <;> omega))).trans (by go_simp)
            have f3 : w2.cell? ⟨w1.heap.size + 1, 0, none⟩ = some (.int .i64 c) := (hb2.cell (p := ⟨w1.heap.size + 1, 0, none⟩) (by first | (go_size; done) | (simp; done) | (simp <;> omega))).trans (by go_simp)
            have f4 : w2.cell? ⟨w1.heap.size + 1, 1, none⟩ = some (.int .i64 d) := (hb2.cell (p := ⟨w1.heap.size + 1, 1, none⟩) (by first | (go_size; done) | (simp; done) | (simp <;> omega))).trans (by go_simp)
            have l5 : w1.heap.size < w2.heap.size := World.block_lt_of_cell? _ _ f1
            have l6 : w1.heap.size + 1 < w2.heap.size := World.block_lt_of_cell? _ _ f3
            have hW2 := bseq hB1 (hB2)
            have hZ2 := hW2.size
            go_wp2_with fail
            refine (iDot_any _ _ _ _ _).mono ?_
            rintro en w3 ⟨rfl, hb3⟩
            have hB3 : Below w2.heap.size w2 w3 := by first | exact hb3 | exact Below.trans (by (go_grown; done)) (hb3.mono (by (go_size; done)))
            have f7 := later hB3 f1
            have f8 := later hB3 f2
            have f9 := later hB3 f3
            have f10 := later hB3 f4
            have l11 : w1.heap.size < w3.heap.size := World.block_lt_of_cell? _ _ f7
            have l12 : w1.heap.size + 1 < w3.heap.size := World.block_lt_of_cell? _ _ f9
            have hW3 := bseq hB1 (bseq hB2 (hB3))
            have hZ3 := hW3.size
            go_wp2
            go_ret2
            exact ⟨by rw [HV.out.1, HV.out.2]; rfl, (by first | exact hW3 | (have hx := hW3; go_grown))⟩
          · have HV : Hid (doMeet p q r s t u v z = false ∧ trkCode p q r s t u v z = 0) := by show _ ∧ _; rw [HM.out.1, HM.out.2]; simp_all [meets, dot_zero]
            go_enter Try.func41, Try.ntmps41
            go_wp2_with fail
            refine (rel4_any _ _ _ _ _ _ _ _ 0 b c d _ (by assumption) HA HB HC HD).mono ?_
            rintro en w1 ⟨rfl, hb1⟩
            have hB1 : Below w.heap.size w w1 := by first | exact hb1 | exact Below.trans (by (go_grown; done)) (hb1.mono (by (go_size; done)))
            have hZ1 := hB1.size
            go_wp2_with fail
            refine (iCross_any _ _ _ _ _).mono ?_
            rintro en w2 ⟨rfl, hb2⟩
            have hB2 : Below w1.heap.size w1 w2 := by first | exact hb2 | exact Below.trans (by (go_grown; done)) (hb2.mono (by (go_size; done)))
            have f1 : w2.cell? ⟨w1.heap.size, 0, none⟩ = some (.int .i64 0) := (hb2.cell (p := ⟨w1.heap.size, 0, none⟩) (by first | (go_size; done) | (simp; done) | (simp <;> omega))).trans (by go_simp)
            have f2 : w2.cell? ⟨w1.heap.size, 1, none⟩ = some (.int .i64 b) := (hb2.cell (p := ⟨w1.heap.size, 1, none⟩) (by first | (go_size; done) | (simp; done) | (simp <;> omega))).trans (by go_simp)
            have f3 : w2.cell? ⟨w1.heap.size + 1, 0, none⟩ = some (.int .i64 c) := (hb2.cell (p := ⟨w1.heap.size + 1, 0, none⟩) (by first | (go_size; done) | (simp; done) | (simp <;> omega))).trans (by go_simp)
            have f4 : w2.cell? ⟨w1.heap.size + 1, 1, none⟩ = some (.int .i64 d) := (hb2.cell (p := ⟨w1.heap.size + 1, 1, none⟩) (by first | (go_size; done) | (simp; done) | (simp <;> omega))).trans (by go_simp)
            have l5 : w1.heap.size < w2.heap.size := World.block_lt_of_cell? _ _ f1
            have l6 : w1.heap.size + 1 < w2.heap.size := World.block_lt_of_cell? _ _ f3
            have hW2 := bseq hB1 (hB2)
            have hZ2 := hW2.size
            go_wp2
            go_ret2
            exact ⟨by rw [HV.out.1, HV.out.2]; rfl, (by first | exact hW2 | (have hx := hW2; go_grown))⟩
    · have a1 : (a == 0) = false := by simpa using a0
      by_cases c0 : c = 0
      · subst c0
        by_cases d0 : d = 0
        · subst d0
          have HV : Hid (doMeet p q r s t u v z = false ∧ trkCode p q r s t u v z = 0) := by show _ ∧ _; rw [HM.out.1, HM.out.2]; simp_all [meets, dot_zero]
          go_enter Try.func41, Try.ntmps41
          go_wp2_with fail
          refine (rel4_any _ _ _ _ _ _ _ _ a b 0 0 _ (by assumption) HA HB HC HD).mono ?_
          rintro en w1 ⟨rfl, hb1⟩
          have hB1 : Below w.heap.size w w1 := by first | exact hb1 | exact Below.trans (by (go_grown; done)) (hb1.mono (by (go_size; done)))
          have hZ1 := hB1.size
          go_wp2
          go_ret2
          exact ⟨by rw [HV.out.1, HV.out.2]; rfl, (by first | exact hB1 | (have hx := hB1; go_grown))⟩
        · have d1 : (d == 0) = false := by simpa using d0
          rcases Bool.eq_false_or_eq_true (cross a b 0 d == 0) with x0 | x0
          · have HV : Hid (doMeet p q r s t u v z = decide (dot a b 0 d < 0) ∧ trkCode p q r s t u v z = 0) := by show _ ∧ _; rw [HM.out.1, HM.out.2]; simp_all [meets, dot_zero]
            go_enter Try.func41, Try.ntmps41
            go_wp2_with fail
            refine (rel4_any _ _ _ _ _ _ _ _ a b 0 d _ (by assumption) HA HB HC HD).mono ?_
            rintro en w1 ⟨rfl, hb1⟩
            have hB1 : Below w.heap.size w w1 := by first | exact hb1 | exact Below.trans (by (go_grown; done)) (hb1.mono (by (go_size; done)))
            have hZ1 := hB1.size
            go_wp2_with fail
            refine (iCross_any _ _ _ _ _).mono ?_
            rintro en w2 ⟨rfl, hb2⟩
            have hB2 : Below w1.heap.size w1 w2 := by first | exact hb2 | exact Below.trans (by (go_grown; done)) (hb2.mono (by (go_size; done)))
            have f1 : w2.cell? ⟨w1.heap.size, 0, none⟩ = some (.int .i64 a) := (hb2.cell (p := ⟨w1.heap.size, 0, none⟩) (by first | (go_size; done) | (simp; done) | (simp <;> omega))).trans (by go_simp)
            have f2 : w2.cell? ⟨w1.heap.size, 1, none⟩ = some (.int .i64 b) := (hb2.cell (p := ⟨w1.heap.size, 1, none⟩) (by first | (go_size; done) | (simp; done) | (simp <;> omega))).trans (by go_simp)
            have f3 : w2.cell? ⟨w1.heap.size + 1, 0, none⟩ = some (.int .i64 0) := (hb2.cell (p := ⟨w1.heap.size + 1, 0, none⟩) (by first | (go_size; done) | (simp; done) | (simp <;> omega))).trans (by go_simp)
            have f4 : w2.cell? ⟨w1.heap.size + 1, 1, none⟩ = some (.int .i64 d) := (hb2.cell (p := ⟨w1.heap.size + 1, 1, none⟩) (by first | (go_size; done) | (simp; done) | (simp <;> omega))).trans (by go_simp)
            have l5 : w1.heap.size < w2.heap.size := World.block_lt_of_cell? _ _ f1
            have l6 : w1.heap.size + 1 < w2.heap.size := World.block_lt_of_cell? _ _ f3
            have hW2 := bseq hB1 (hB2)
            have hZ2 := hW2.size
            go_wp2_with fail
            refine (iDot_any _ _ _ _ _).mono ?_
            rintro en w3 ⟨rfl, hb3⟩
            have hB3 : Below w2.heap.size w2 w3 := by first | exact hb3 | exact Below.trans (by (go_grown; done)) (hb3.mono (by (go_size; done)))
            have f7 := later hB3 f1
            have f8 := later hB3 f2
            have f9 := later hB3 f3
            have f10 := later hB3 f4
            have l11 : w1.heap.size < w3.heap.size := World.block_lt_of_cell? _ _ f7
            have l12 : w1.heap.size + 1 < w3.heap.size := World.block_lt_of_cell? _ _ f9
            have hW3 := bseq hB1 (bseq hB2 (hB3))
            have hZ3 := hW3.size
            go_wp2
            go_ret2
            exact ⟨by rw [HV.out.1, HV.out.2]; rfl, (by first | exact hW3 | (have hx := hW3; go_grown))⟩
          · have HV : Hid (doMeet p q r s t u v z = false ∧ trkCode p q r s t u v z = 0) := by show _ ∧ _; rw [HM.out.1, HM.out.2]; simp_all [meets, dot_zero]
            go_enter Try.func41, Try.ntmps41
            go_wp2_with fail
            refine (rel4_any _ _ _ _ _ _ _ _ a b 0 d _ (by assumption) HA HB HC HD).mono ?_
            rintro en w1 ⟨rfl, hb1⟩
            have hB1 : Below w.heap.size w w1 := by first | exact hb1 | exact Below.trans (by (go_grown; done)) (hb1.mono (by (go_size; done)))
            have hZ1 := hB1.size
            go_wp2_with fail
            refine (iCross_any _ _ _ _ _).mono ?_
            rintro en w2 ⟨rfl, hb2⟩
            have hB2 : Below w1.heap.size w1 w2 := by first | exact hb2 | exact Below.trans (by (go_grown; done)) (hb2.mono (by (go_size; done)))
            have f1 : w2.cell? ⟨w1.heap.size, 0, none⟩ = some (.int .i64 a) := (hb2.cell (p := ⟨w1.heap.size, 0, none⟩) (by first | (go_size; done) | (simp; done) | (simp <;> omega))).trans (by go_simp)
            have f2 : w2.cell? ⟨w1.heap.size, 1, none⟩ = some (.int .i64 b) := (hb2.cell (p := ⟨w1.heap.size, 1, none⟩) (by first | (go_size; done) | (simp; done) | (simp <;> omega))).trans (by go_simp)
            have f3 : w2.cell? ⟨w1.heap.size + 1, 0, none⟩ = some (.int .i64 0) := (hb2.cell (p := ⟨w1.heap.size + 1, 0, none⟩) (by first | (go_size; done) | (simp; done) | (simp <;> omega))).trans (by go_simp)
            have f4 : w2.cell? ⟨w1.heap.size + 1, 1, none⟩ = some (.int .i64 d) := (hb2.cell (p := ⟨w1.heap.size + 1, 1, none⟩) (by first | (go_size; done) | (simp; done) | (simp <;> omega))).trans (by go_simp)
            have l5 : w1.heap.size < w2.heap.size := World.block_lt_of_cell? _ _ f1
            have l6 : w1.heap.size + 1 < w2.heap.size := World.block_lt_of_cell? _ _ f3
            have hW2 := bseq hB1 (hB2)
            have hZ2 := hW2.size
            go_wp2
            go_ret2
            exact ⟨by rw [HV.out.1, HV.out.2]; rfl, (by first | exact hW2 | (have hx := hW2; go_grown))⟩
      · have c1 : (c == 0) = false := by simpa using c0
        rcases Bool.eq_false_or_eq_true (cross a b c d == 0) with x0 | x0
        · have HV : Hid (doMeet p q r s t u v z = decide (dot a b c d < 0) ∧ trkCode p q r s t u v z = 0) := by show _ ∧ _; rw [HM.out.1, HM.out.2]; simp_all [meets, dot_zero]
          go_enter Try.func41, Try.ntmps41
          go_wp2_with fail
          refine (rel4_any _ _ _ _ _ _ _ _ a b c d _ (by assumption) HA HB HC HD).mono ?_
          rintro en w1 ⟨rfl, hb1⟩
          have hB1 : Below w.heap.size w w1 := by first | exact hb1 | exact Below.trans (by (go_grown; done)) (hb1.mono (by (go_size; done)))
          have hZ1 := hB1.size
          go_wp2_with fail
          refine (iCross_any _ _ _ _ _).mono ?_
          rintro en w2 ⟨rfl, hb2⟩
          have hB2 : Below w1.heap.size w1 w2 := by first | exact hb2 | exact Below.trans (by (go_grown; done)) (hb2.mono (by (go_size; done)))
          have f1 : w2.cell? ⟨w1.heap.size, 0, none⟩ = some (.int .i64 a) := (hb2.cell (p := ⟨w1.heap.size, 0, none⟩) (by first | (go_size; done) | (simp; done) | (simp <;> omega))).trans (by go_simp)
          have f2 : w2.cell? ⟨w1.heap.size, 1, none⟩ = some (.int .i64 b) := (hb2.cell (p := ⟨w1.heap.size, 1, none⟩) (by first | (go_size; done) | (simp; done) | (simp <;> omega))).trans (by go_simp)
          have f3 : w2.cell? ⟨w1.heap.size + 1, 0, none⟩ = some (.int .i64 c) := (hb2.cell (p := ⟨w1.heap.size + 1, 0, none⟩) (by first | (go_size; done) | (simp; done) | (simp <;> omega))).trans (by go_simp)
          have f4 : w2.cell? ⟨w1.heap.size + 1, 1, none⟩ = some (.int .i64 d) := (hb2.cell (p := ⟨w1.heap.size + 1, 1, none⟩) (by first | (go_size; done) | (simp; done) | (simp <;> omega))).trans (by go_simp)
          have l5 : w1.heap.size < w2.heap.size := World.block_lt_of_cell? _ _ f1
          have l6 : w1.heap.size + 1 < w2.heap.size := World.block_lt_of_cell? _ _ f3
          have hW2 := bseq hB1 (hB2)
          have hZ2 := hW2.size
          go_wp2_with fail
          refine (iDot_any _ _ _ _ _).mono ?_
          rintro en w3 ⟨rfl, hb3⟩
          have hB3 : Below w2.heap.size w2 w3 := by first | exact hb3 | exact Below.trans (by (go_grown; done)) (hb3.mono (by (go_size; done)))
          have f7 := later hB3 f1
          have f8 := later hB3 f2
          have f9 := later hB3 f3
          have f10 := later hB3 f4
          have l11 : w1.heap.size < w3.heap.size := World.block_lt_of_cell? _ _ f7
          have l12 : w1.heap.size + 1 < w3.heap.size := World.block_lt_of_cell? _ _ f9
          have hW3 := bseq hB1 (bseq hB2 (hB3))
          have hZ3 := hW3.size
          go_wp2
          go_ret2
          exact ⟨by rw [HV.out.1, HV.out.2]; rfl, (by first | exact hW3 | (have hx := hW3; go_grown))⟩
        · have HV : Hid (doMeet p q r s t u v z = false ∧ trkCode p q r s t u v z = 0) := by show _ ∧ _; rw [HM.out.1, HM.out.2]; simp_all [meets, dot_zero]
          go_enter Try.func41, Try.ntmps41
          go_wp2_with fail
          refine (rel4_any _ _ _ _ _ _ _ _ a b c d _ (by assumption) HA HB HC HD).mono ?_
          rintro en w1 ⟨rfl, hb1⟩
          have hB1 : Below w.heap.size w w1 := by first | exact hb1 | exact Below.trans (by (go_grown; done)) (hb1.mono (by (go_size; done)))
          have hZ1 := hB1.size
          go_wp2_with fail
          refine (iCross_any _ _ _ _ _).mono ?_
          rintro en w2 ⟨rfl, hb2⟩
          have hB2 : Below w1.heap.size w1 w2 := by first | exact hb2 | exact Below.trans (by (go_grown; done)) (hb2.mono (by (go_size; done)))
          have f1 : w2.cell? ⟨w1.heap.size, 0, none⟩ = some (.int .i64 a) := (hb2.cell (p := ⟨w1.heap.size, 0, none⟩) (by first | (go_size; done) | (simp; done) | (simp <;> omega))).trans (by go_simp)
          have f2 : w2.cell? ⟨w1.heap.size, 1, none⟩ = some (.int .i64 b) := (hb2.cell (p := ⟨w1.heap.size, 1, none⟩) (by first | (go_size; done) | (simp; done) | (simp <;> omega))).trans (by go_simp)
          have f3 : w2.cell? ⟨w1.heap.size + 1, 0, none⟩ = some (.int .i64 c) := (hb2.cell (p := ⟨w1.heap.size + 1, 0, none⟩) (by first | (go_size; done) | (simp; done) | (simp <;> omega))).trans (by go_simp)
          have f4 : w2.cell? ⟨w1.heap.size + 1, 1, none⟩ = some (.int .i64 d) := (hb2.cell (p := ⟨w1.heap.size + 1, 1, none⟩) (by first | (go_size; done) | (simp; done) | (simp <;> omega))).trans (by go_simp)
          have l5 : w1.heap.size < w2.heap.size := World.block_lt_of_cell? _ _ f1
          have l6 : w1.heap.size + 1 < w2.heap.size := World.block_lt_of_cell? _ _ f3
          have hW2 := bseq hB1 (hB2)
          have hZ2 := hW2.size
          go_wp2
          go_ret2
          exact ⟨by rw [HV.out.1, HV.out.2]; rfl, (by first | exact hW2 | (have hx := hW2; go_grown))⟩
  · have HV : Hid (doMeet p q r s t u v z = false ∧ trkCode p q r s t u v z = 1) := by show _ ∧ _; simp [doMeet, trkCode, h1]
    go_enter Try.func41, Try.ntmps41
    go_wp2_with fail
    refine (relNo_any _ _ _ _ _ _ _ _ _ (by assumption)).mono ?_
    rintro en w1 ⟨rfl, hb1⟩
    have hB1 : Below w.heap.size w w1 := by first | exact hb1 | exact Below.trans (by (go_grown; done)) (hb1.mono (by (go_size; done)))
    have hZ1 := hB1.size
    go_wp2
    go_ret2
    exact ⟨by rw [HV.out.1, HV.out.2]; rfl, (by first | exact hB1 | (have hx := hB1; go_grown))⟩
end Go.Proofs.Ytoccglmlpobeeaa
