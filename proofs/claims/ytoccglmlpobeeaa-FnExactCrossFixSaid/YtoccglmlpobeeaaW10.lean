/- walks: two tracks, the reference -/
import Derived.Test.YtoccglmlpobeeaaW6
import Derived.Deep.DeepCutAuto
set_option linter.unusedVariables false
set_option linter.unusedSimpArgs false
namespace Go.Proofs.Ytoccglmlpobeeaa
open Go.RowKit

theorem bcell {W w1 : World} (hb : Below W.heap.size W w1) : (∀ b o, b < W.heap.size → w1.cell? ⟨b, o, none⟩ = W.cell? ⟨b, o, none⟩) ∧ (∀ b o, b < W.heap.size → w1.frozen? ⟨b, o, none⟩ = W.frozen? ⟨b, o, none⟩) :=
  ⟨fun b o hlt => hb.cell (p := ⟨b, o, none⟩) hlt, fun b o hlt => hb.frozen (p := ⟨b, o, none⟩) hlt⟩
def Sees (W w9 : World) : Prop := (∀ b o v, W.cell? ⟨b, o, none⟩ = some v → w9.cell? ⟨b, o, none⟩ = some v) ∧ Below W.heap.size W w9
theorem Sees.refl (W : World) : Sees W W := ⟨fun _ _ _ h => h, Below.refl _ _⟩
theorem Sees.of {W x : World} (h : Below W.heap.size W x) : Sees W x := ⟨fun b o v hv => later h hv, h⟩
theorem Sees.keep {W x y : World} (hb : Below x.heap.size x y) (h : Sees W x) : Sees W y := .of (h.2.trans (hb.mono h.2.size))
theorem Sees.drew {W x : World} (h : Sees W x) : Sees W x.drew := h.keep (Below.drew (Below.refl _ _))
theorem Sees.alloc {W x : World} {o : Obj} (h : Sees W x) : Sees W (x.alloc o) := h.keep (Below.alloc (Below.refl _ _) (Nat.le_refl _) _)
theorem Sees.set {W x : World} {p : Addr} {v : Value} (h : Sees W x) (hp : W.heap.size ≤ p.block) : Sees W (x.setCell p v) := .of (h.2.setCell hp _)

set_option maxHeartbeats 16000000 in
theorem sDoYes_any (p q r s t u v z a b c d : Int) (w : World) (h1 : trk2 p q r s t u v z = true) (HA : Hid (t - p = a)) (HB : Hid (u - q = b)) (HC : Hid (v - r = c)) (HD : Hid (z - s = d)) :
    Calls Try.prog 39 #[.agg #[.int .i64 p, .int .i64 q, .int .i64 r, .int .i64 s], .agg #[.int .i64 t, .int .i64 u, .int .i64 v, .int .i64 z]] w fun en w9 => en = .returned (.tuple #[.bool (meets a b c d), .int .i64 0]) ∧ Below w.heap.size w w9 := by
  obtain ⟨k1, k2⟩ := trk2_yes h1
  obtain ⟨hb1, hb2⟩ := trk2_bd h1
  unfold TrB at hb1 hb2
  clear h1
  go_enter Try.func39, Try.ntmps39
  go_wp2_with fail
  refine (sTrack_any _ _ _ _ _).mono ?_
  rintro en w1 ⟨rfl, hb1⟩
  have hB1 : Below w.heap.size w w1 := by first | exact hb1 | exact Below.trans (by (go_grown; done)) (hb1.mono (by (go_size; done)))
  have f1 : w1.cell? ⟨w.heap.size, 0, none⟩ = some (.int .i64 p) := (hb1.cell (p := ⟨w.heap.size, 0, none⟩) (by first | (go_size; done) | (simp; done) | (simp <;> omega))).trans (by go_simp)
  have f2 : w1.cell? ⟨w.heap.size, 1, none⟩ = some (.int .i64 q) := (hb1.cell (p := ⟨w.heap.size, 1, none⟩) (by first | (go_size; done) | (simp; done) | (simp <;> omega))).trans (by go_simp)
  have f3 : w1.cell? ⟨w.heap.size, 2, none⟩ = some (.int .i64 r) := (hb1.cell (p := ⟨w.heap.size, 2, none⟩) (by first | (go_size; done) | (simp; done) | (simp <;> omega))).trans (by go_simp)
  have f4 : w1.cell? ⟨w.heap.size, 3, none⟩ = some (.int .i64 s) := (hb1.cell (p := ⟨w.heap.size, 3, none⟩) (by first | (go_size; done) | (simp; done) | (simp <;> omega))).trans (by go_simp)
  have f5 : w1.cell? ⟨w.heap.size + 1, 0, none⟩ = some (.int .i64 t) := (hb1.cell (p := ⟨w.heap.size + 1, 0, none⟩) (by first | (go_size; done) | (simp; done) | (simp <;> omega))).trans (by go_simp)
  have f6 : w1.cell? ⟨w.heap.size + 1, 1, none⟩ = some (.int .i64 u) := (hb1.cell (p := ⟨w.heap.size + 1, 1, none⟩) (by first | (go_size; done) | (simp; done) | (simp <;> omega))).trans (by go_simp)
  have f7 : w1.cell? ⟨w.heap.size + 1, 2, none⟩ = some (.int .i64 v) := (hb1.cell (p := ⟨w.heap.size + 1, 2, none⟩) (by first | (go_size; done) | (simp; done) | (simp <;> omega))).trans (by go_simp)
  have f8 : w1.cell? ⟨w.heap.size + 1, 3, none⟩ = some (.int .i64 z) := (hb1.cell (p := ⟨w.heap.size + 1, 3, none⟩) (by first | (go_size; done) | (simp; done) | (simp <;> omega))).trans (by go_simp)
  have l9 : w.heap.size < w1.heap.size := World.block_lt_of_cell? _ _ f1
  have l10 : w.heap.size + 1 < w1.heap.size := World.block_lt_of_cell? _ _ f5
  have hZ1 := hB1.size
  go_wp2_with fail
  refine (sTrack_any _ _ _ _ _).mono ?_
  rintro en w2 ⟨rfl, hb2⟩
  have hB2 : Below w1.heap.size w1 w2 := by first | exact hb2 | exact Below.trans (by (go_grown; done)) (hb2.mono (by (go_size; done)))
  have f11 := later hB2 f1
  have f12 := later hB2 f2
  have f13 := later hB2 f3
  have f14 := later hB2 f4
  have f15 := later hB2 f5
  have f16 := later hB2 f6
  have f17 := later hB2 f7
  have f18 := later hB2 f8
  have l19 : w.heap.size < w2.heap.size := World.block_lt_of_cell? _ _ f11
  have l20 : w.heap.size + 1 < w2.heap.size := World.block_lt_of_cell? _ _ f15
  have hW2 := bseq hB1 (hB2)
  have hZ2 := hW2.size
  have HTS : Hid (∀ X : World, Below w2.heap.size w2 X → X.cell? ⟨w.heap.size, 0, none⟩ = some (.int .i64 p) ∧ X.cell? ⟨w.heap.size, 1, none⟩ = some (.int .i64 q) ∧ X.cell? ⟨w.heap.size, 2, none⟩ = some (.int .i64 r) ∧ X.cell? ⟨w.heap.size, 3, none⟩ = some (.int .i64 s) ∧ X.cell? ⟨w.heap.size + 1, 0, none⟩ = some (.int .i64 t) ∧ X.cell? ⟨w.heap.size + 1, 1, none⟩ = some (.int .i64 u) ∧ X.cell? ⟨w.heap.size + 1, 2, none⟩ = some (.int .i64 v) ∧ X.cell? ⟨w.heap.size + 1, 3, none⟩ = some (.int .i64 z) ∧ Below w2.heap.size w2 X) := fun X hB => ⟨later hB f11, later hB f12, later hB f13, later hB f14, later hB f15, later hB f16, later hB f17, later hB f18, hB⟩
  have ea : wrap64 (t - p) = a := by rw [← HA.out]; exact IntWalk.wrap64_in _ (by omega)
  have eb : wrap64 (u - q) = b := by rw [← HB.out]; exact IntWalk.wrap64_in _ (by omega)
  have ec : wrap64 (v - r) = c := by rw [← HC.out]; exact IntWalk.wrap64_in _ (by omega)
  have ed : wrap64 (z - s) = d := by rw [← HD.out]; exact IntWalk.wrap64_in _ (by omega)
  go_upto_region 3 with fail
  go_cut [6, 7] (fun s6 s7 w9 => ∃ g h : Nat, s6 = .pointer (some ⟨g, 0, none⟩) ∧ s7 = .pointer (some ⟨h, 0, none⟩) ∧ w9.cell? ⟨g, 0, none⟩ = some (.int .i64 a) ∧ w9.cell? ⟨g, 1, none⟩ = some (.int .i64 b) ∧ w9.cell? ⟨h, 0, none⟩ = some (.int .i64 c) ∧ w9.cell? ⟨h, 1, none⟩ = some (.int .i64 d) ∧ Below w2.heap.size w2 w9)
  case first =>
    go_region_held3 (fun w9 => w9.cell? ⟨w.heap.size, 0, none⟩ = some (.int .i64 p) ∧ w9.cell? ⟨w.heap.size, 1, none⟩ = some (.int .i64 q) ∧ w9.cell? ⟨w.heap.size, 2, none⟩ = some (.int .i64 r) ∧ w9.cell? ⟨w.heap.size, 3, none⟩ = some (.int .i64 s) ∧ w9.cell? ⟨w.heap.size + 1, 0, none⟩ = some (.int .i64 t) ∧ w9.cell? ⟨w.heap.size + 1, 1, none⟩ = some (.int .i64 u) ∧ w9.cell? ⟨w.heap.size + 1, 2, none⟩ = some (.int .i64 v) ∧ w9.cell? ⟨w.heap.size + 1, 3, none⟩ = some (.int .i64 z) ∧ Below w2.heap.size w2 w9) (first | with_reducible assumption | exact HTS.out _ (by repeat (first | assumption | exact Below.refl _ _ | refine Below.drew ?_ | refine Below.alloc ?_ (by (try simp only [World.size_alloc, World.size_drew, World.size_setCell]); omega) _ | refine Below.setCell ?_ (by (try dsimp only); omega) _))) (first | (go_at_call 83; refine (sLess_any _ _ _ _ _).mono ?_; rintro en w1 ⟨rfl, hb⟩; have hB9 : Below w2.heap.size w2 w1 := Below.trans (b := _) (by repeat (first | assumption | exact Below.refl _ _ | refine Below.drew ?_ | refine Below.alloc ?_ (by (try simp only [World.size_alloc, World.size_drew, World.size_setCell]); omega) _ | refine Below.setCell ?_ (by (try dsimp only); omega) _)) (hb.mono (by (try simp only [World.size_alloc, World.size_drew, World.size_setCell]); omega)); have hz9 := hB9.size; have hz8 := hb.size; (try simp only [World.size_alloc, World.size_drew, World.size_setCell]  at hz8); (try have hz7 : w2.heap.size < w1.heap.size := (by omega)); (try have hz6 : w2.heap.size + 1 < w1.heap.size := (by omega)); (try have hy7 : ¬ w2.heap.size = w1.heap.size := (by omega)); (try have hy6 : ¬ w2.heap.size + 1 = w1.heap.size := (by omega)); (try have hy5 : ¬ w1.heap.size = w2.heap.size := (by omega)); (try have hz5 := Nat.lt_of_succ_le hz8); (try have hz4 := Nat.lt_of_succ_lt hz5); (try have hy4 := Nat.ne_of_lt hz5); (try have hy3 := Nat.ne_of_gt hz5); (try have hy2 := Nat.ne_of_lt hz4); (try have hy1 := Nat.ne_of_gt hz4); obtain ⟨hc, hf⟩ := bcell hb; clear hb))
    all_goals (go_wp2_with fail; go_meet)
    all_goals refine ⟨_, _, rfl, rfl, ?_, ?_, ?_, ?_, (by repeat (first | assumption | exact Below.refl _ _ | refine Below.drew ?_ | refine Below.alloc ?_ (by (try simp only [World.size_alloc, World.size_drew, World.size_setCell]); omega) _ | refine Below.setCell ?_ (by (try dsimp only); omega) _))⟩
    all_goals (first | go_simp | skip)
    all_goals exact World.cell?_setCell_same' _ _ _ (by go_simp)
  case rest =>
    obtain ⟨g, h, rfl, rfl, g0, g1, h0, h1, hbx⟩ := hcut
    clear HA HB HC HD ea eb ec ed
    by_cases a0 : a = 0
    · subst a0
      by_cases b0 : b = 0
      · subst b0
        have HV : Hid (meets 0 0 c d = true) := rfl
        have X0 : Below w.heap.size w wc := bseq hW2 hbx
        go_wp2
        go_ret2
        exact ⟨by rw [HV.out]; rfl, (by first | exact X0 | (have hx := X0; go_grown))⟩
      · have b1 : (b == 0) = false := by simpa using b0
        rcases Bool.eq_false_or_eq_true (cross 0 b c d == 0) with x0 | x0
        · have HV : Hid (meets 0 b c d = decide (dot 0 b c d < 0)) := by show _ = _; simp_all [meets]
          have X0 : Below w.heap.size w wc := bseq hW2 hbx
          go_wp2_with fail
          refine (sCross_any _ _ _ _ _).mono ?_
          rintro en v1 ⟨rfl, hv1⟩
          have hu1 := hv1
          have g0_1 := later hu1 g0
          have g1_1 := later hu1 g1
          have h0_1 := later hu1 h0
          have h1_1 := later hu1 h1
          clear g0 g1 h0 h1
          have X1 := bseq X0 hu1
          go_wp2_with fail
          refine (sDot_any _ _ _ _ _).mono ?_
          rintro en v2 ⟨rfl, hv2⟩
          have hu2 := hv2
          have g0_2 := later hu2 g0_1
          have g1_2 := later hu2 g1_1
          have h0_2 := later hu2 h0_1
          have h1_2 := later hu2 h1_1
          clear g0_1 g1_1 h0_1 h1_1
          have X2 := bseq X1 hu2
          go_wp2
          go_ret2
          exact ⟨by rw [HV.out]; rfl, (by first | exact X2 | (have hx := X2; go_grown))⟩
        · have HV : Hid (meets 0 b c d = false) := by show _ = _; simp_all [meets]
          have X0 : Below w.heap.size w wc := bseq hW2 hbx
          go_wp2_with fail
          refine (sCross_any _ _ _ _ _).mono ?_
          rintro en v1 ⟨rfl, hv1⟩
          have hu1 := hv1
          have g0_1 := later hu1 g0
          have g1_1 := later hu1 g1
          have h0_1 := later hu1 h0
          have h1_1 := later hu1 h1
          clear g0 g1 h0 h1
          have X1 := bseq X0 hu1
          go_wp2
          go_ret2
          exact ⟨by rw [HV.out]; rfl, (by first | exact X1 | (have hx := X1; go_grown))⟩
    · have a1 : (a == 0) = false := by simpa using a0
      rcases Bool.eq_false_or_eq_true (cross a b c d == 0) with x0 | x0
      · have HV : Hid (meets a b c d = decide (dot a b c d < 0)) := by show _ = _; simp_all [meets]
        have X0 : Below w.heap.size w wc := bseq hW2 hbx
        go_wp2_with fail
        refine (sCross_any _ _ _ _ _).mono ?_
        rintro en v1 ⟨rfl, hv1⟩
        have hu1 := hv1
        have g0_1 := later hu1 g0
        have g1_1 := later hu1 g1
        have h0_1 := later hu1 h0
        have h1_1 := later hu1 h1
        clear g0 g1 h0 h1
        have X1 := bseq X0 hu1
        go_wp2_with fail
        refine (sDot_any _ _ _ _ _).mono ?_
        rintro en v2 ⟨rfl, hv2⟩
        have hu2 := hv2
        have g0_2 := later hu2 g0_1
        have g1_2 := later hu2 g1_1
        have h0_2 := later hu2 h0_1
        have h1_2 := later hu2 h1_1
        clear g0_1 g1_1 h0_1 h1_1
        have X2 := bseq X1 hu2
        go_wp2
        go_ret2
        exact ⟨by rw [HV.out]; rfl, (by first | exact X2 | (have hx := X2; go_grown))⟩
      · have HV : Hid (meets a b c d = false) := by show _ = _; simp_all [meets]
        have X0 : Below w.heap.size w wc := bseq hW2 hbx
        go_wp2_with fail
        refine (sCross_any _ _ _ _ _).mono ?_
        rintro en v1 ⟨rfl, hv1⟩
        have hu1 := hv1
        have g0_1 := later hu1 g0
        have g1_1 := later hu1 g1
        have h0_1 := later hu1 h0
        have h1_1 := later hu1 h1
        clear g0 g1 h0 h1
        have X1 := bseq X0 hu1
        go_wp2
        go_ret2
        exact ⟨by rw [HV.out]; rfl, (by first | exact X1 | (have hx := X1; go_grown))⟩
set_option maxHeartbeats 8000000 in
theorem sDo_any (p q r s t u v z : Int) (w : World) :
    Calls Try.prog 39 #[.agg #[.int .i64 p, .int .i64 q, .int .i64 r, .int .i64 s], .agg #[.int .i64 t, .int .i64 u, .int .i64 v, .int .i64 z]] w fun en w9 => en = .returned (.tuple #[.bool (doMeet p q r s t u v z), .int .i64 (trkCode p q r s t u v z)]) ∧ Below w.heap.size w w9 := by
  rcases Bool.eq_false_or_eq_true (trk2 p q r s t u v z) with h1 | h1
  · obtain ⟨a, b, c, d, HA, HB, HC, HD, _⟩ := diffs h1
    have HM : doMeet p q r s t u v z = meets a b c d ∧ trkCode p q r s t u v z = 0 := by rw [← HA.out, ← HB.out, ← HC.out, ← HD.out]; simp [doMeet, trkCode, h1]
    rw [HM.1, HM.2]
    exact sDoYes_any p q r s t u v z a b c d w h1 HA HB HC HD
  · have HV : Hid (doMeet p q r s t u v z = false ∧ trkCode p q r s t u v z = 1) := by show _ ∧ _; simp [doMeet, trkCode, h1]
    rcases trk2_no h1 with k1 | ⟨k1, k2⟩
    · clear h1
      go_enter Try.func39, Try.ntmps39
      go_wp2_with fail
      refine (sTrack_any _ _ _ _ _).mono ?_
      rintro en w1 ⟨rfl, hb1⟩
      have hB1 : Below w.heap.size w w1 := by first | exact hb1 | exact Below.trans (by (go_grown; done)) (hb1.mono (by (go_size; done)))
      have f1 : w1.cell? ⟨w.heap.size, 0, none⟩ = some (.int .i64 p) := (hb1.cell (p := ⟨w.heap.size, 0, none⟩) (by first | (go_size; done) | (simp; done) | (simp <;> omega))).trans (by go_simp)
      have f2 : w1.cell? ⟨w.heap.size, 1, none⟩ = some (.int .i64 q) := (hb1.cell (p := ⟨w.heap.size, 1, none⟩) (by first | (go_size; done) | (simp; done) | (simp <;> omega))).trans (by go_simp)
      have f3 : w1.cell? ⟨w.heap.size, 2, none⟩ = some (.int .i64 r) := (hb1.cell (p := ⟨w.heap.size, 2, none⟩) (by first | (go_size; done) | (simp; done) | (simp <;> omega))).trans (by go_simp)
      have f4 : w1.cell? ⟨w.heap.size, 3, none⟩ = some (.int .i64 s) := (hb1.cell (p := ⟨w.heap.size, 3, none⟩) (by first | (go_size; done) | (simp; done) | (simp <;> omega))).trans (by go_simp)
      have f5 : w1.cell? ⟨w.heap.size + 1, 0, none⟩ = some (.int .i64 t) := (hb1.cell (p := ⟨w.heap.size + 1, 0, none⟩) (by first | (go_size; done) | (simp; done) | (simp <;> omega))).trans (by go_simp)
      have f6 : w1.cell? ⟨w.heap.size + 1, 1, none⟩ = some (.int .i64 u) := (hb1.cell (p := ⟨w.heap.size + 1, 1, none⟩) (by first | (go_size; done) | (simp; done) | (simp <;> omega))).trans (by go_simp)
      have f7 : w1.cell? ⟨w.heap.size + 1, 2, none⟩ = some (.int .i64 v) := (hb1.cell (p := ⟨w.heap.size + 1, 2, none⟩) (by first | (go_size; done) | (simp; done) | (simp <;> omega))).trans (by go_simp)
      have f8 : w1.cell? ⟨w.heap.size + 1, 3, none⟩ = some (.int .i64 z) := (hb1.cell (p := ⟨w.heap.size + 1, 3, none⟩) (by first | (go_size; done) | (simp; done) | (simp <;> omega))).trans (by go_simp)
      have l9 : w.heap.size < w1.heap.size := World.block_lt_of_cell? _ _ f1
      have l10 : w.heap.size + 1 < w1.heap.size := World.block_lt_of_cell? _ _ f5
      have hZ1 := hB1.size
      go_wp2
      go_ret2
      exact ⟨by rw [HV.out.1, HV.out.2]; rfl, (by first | exact hB1 | (have hx := hB1; go_grown))⟩
    · clear h1
      go_enter Try.func39, Try.ntmps39
      go_wp2_with fail
      refine (sTrack_any _ _ _ _ _).mono ?_
      rintro en w1 ⟨rfl, hb1⟩
      have hB1 : Below w.heap.size w w1 := by first | exact hb1 | exact Below.trans (by (go_grown; done)) (hb1.mono (by (go_size; done)))
      have f1 : w1.cell? ⟨w.heap.size, 0, none⟩ = some (.int .i64 p) := (hb1.cell (p := ⟨w.heap.size, 0, none⟩) (by first | (go_size; done) | (simp; done) | (simp <;> omega))).trans (by go_simp)
      have f2 : w1.cell? ⟨w.heap.size, 1, none⟩ = some (.int .i64 q) := (hb1.cell (p := ⟨w.heap.size, 1, none⟩) (by first | (go_size; done) | (simp; done) | (simp <;> omega))).trans (by go_simp)
      have f3 : w1.cell? ⟨w.heap.size, 2, none⟩ = some (.int .i64 r) := (hb1.cell (p := ⟨w.heap.size, 2, none⟩) (by first | (go_size; done) | (simp; done) | (simp <;> omega))).trans (by go_simp)
      have f4 : w1.cell? ⟨w.heap.size, 3, none⟩ = some (.int .i64 s) := (hb1.cell (p := ⟨w.heap.size, 3, none⟩) (by first | (go_size; done) | (simp; done) | (simp <;> omega))).trans (by go_simp)
      have f5 : w1.cell? ⟨w.heap.size + 1, 0, none⟩ = some (.int .i64 t) := (hb1.cell (p := ⟨w.heap.size + 1, 0, none⟩) (by first | (go_size; done) | (simp; done) | (simp <;> omega))).trans (by go_simp)
      have f6 : w1.cell? ⟨w.heap.size + 1, 1, none⟩ = some (.int .i64 u) := (hb1.cell (p := ⟨w.heap.size + 1, 1, none⟩) (by first | (go_size; done) | (simp; done) | (simp <;> omega))).trans (by go_simp)
      have f7 : w1.cell? ⟨w.heap.size + 1, 2, none⟩ = some (.int .i64 v) := (hb1.cell (p := ⟨w.heap.size + 1, 2, none⟩) (by first | (go_size; done) | (simp; done) | (simp <;> omega))).trans (by go_simp)
      have f8 : w1.cell? ⟨w.heap.size + 1, 3, none⟩ = some (.int .i64 z) := (hb1.cell (p := ⟨w.heap.size + 1, 3, none⟩) (by first | (go_size; done) | (simp; done) | (simp <;> omega))).trans (by go_simp)
      have l9 : w.heap.size < w1.heap.size := World.block_lt_of_cell? _ _ f1
      have l10 : w.heap.size + 1 < w1.heap.size := World.block_lt_of_cell? _ _ f5
      have hZ1 := hB1.size
      go_wp2_with fail
      refine (sTrack_any _ _ _ _ _).mono ?_
      rintro en w2 ⟨rfl, hb2⟩
      have hB2 : Below w1.heap.size w1 w2 := by first | exact hb2 | exact Below.trans (by (go_grown; done)) (hb2.mono (by (go_size; done)))
      have f11 := later hB2 f1
      have f12 := later hB2 f2
      have f13 := later hB2 f3
      have f14 := later hB2 f4
      have f15 := later hB2 f5
      have f16 := later hB2 f6
      have f17 := later hB2 f7
      have f18 := later hB2 f8
      have l19 : w.heap.size < w2.heap.size := World.block_lt_of_cell? _ _ f11
      have l20 : w.heap.size + 1 < w2.heap.size := World.block_lt_of_cell? _ _ f15
      have hW2 := bseq hB1 (hB2)
      have hZ2 := hW2.size
      go_wp2
      go_ret2
      exact ⟨by rw [HV.out.1, HV.out.2]; rfl, (by first | exact hW2 | (have hx := hW2; go_grown))⟩
end Go.Proofs.Ytoccglmlpobeeaa
