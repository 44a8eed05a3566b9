/- walks: ClosestTime, the reference -/
import Derived.Test.YtoccglmlpobeeaaW10
import Derived.Test.YtoccglmlpobeeaaW15
set_option linter.unusedVariables false
set_option linter.unusedSimpArgs false
namespace Go.Proofs.Ytoccglmlpobeeaa
open Go.RowKit

set_option maxHeartbeats 32000000 in
theorem sCTYes_any (p q r s t u v z a b c d : Int) (w : World) (h1 : trk2 p q r s t u v z = true) (HA : Hid (t - p = a)) (HB : Hid (u - q = b)) (HC : Hid (v - r = c)) (HD : Hid (z - s = d))
    (ba : -200000 ≤ a ∧ a ≤ 200000) (bb : -200000 ≤ b ∧ b ≤ 200000) (bc : -2000 ≤ c ∧ c ≤ 2000) (bd : -2000 ≤ d ∧ d ≤ 2000) :
    Calls Try.prog 55 #[.agg #[.int .i64 p, .int .i64 q, .int .i64 r, .int .i64 s], .agg #[.int .i64 t, .int .i64 u, .int .i64 v, .int .i64 z]] w fun en w9 => en = .returned (.tuple #[.agg #[.int .i64 (ctX a b c d), .int .i64 (ctY a b c d)], .int .i64 (ctC a b c d)]) ∧ Below w.heap.size w w9 := by
  obtain ⟨k1, k2⟩ := trk2_yes h1
  obtain ⟨hb1, hb2⟩ := trk2_bd h1
  unfold TrB at hb1 hb2
  clear h1
  go_enter Try.func55, Try.ntmps55
  go_wp2_with fail
  refine (sTrack_any _ _ _ _ _).mono ?_
  rintro en w1 ⟨rfl, hb1⟩
  have hB1 : Below w.heap.size w w1 := by first | exact hb1 | exact Below.trans (by repeat (first | exact Below.refl _ _ | refine Below.drew ?_ | refine below_drewN ?_ _ | refine Below.alloc ?_ (by (try simp only [World.size_alloc, World.size_drew, size_drewN, World.size_setCell]); omega) _ | refine Below.setCell ?_ (by (try dsimp only); omega) _)) (hb1.mono (by (try simp only [World.size_alloc, World.size_drew, size_drewN, World.size_setCell]); omega))
  have f1 : w1.cell? ⟨w.heap.size, 0, none⟩ = some (.int .i64 p) := (hb1.cell (p := ⟨w.heap.size, 0, none⟩) (by first | (go_size; done) | (simp; done) | (simp <;> omega))).trans (by go_simp)
  have f2 : w1.cell? ⟨w.heap.size, 1, none⟩ = some (.int .i64 q) := (hb1.cell (p := ⟨w.heap.size, 1, none⟩) (by first | (go_size; done) | (simp; done) | (simp <;> omega))).trans (by go_simp)
  have f3 : w1.cell? ⟨w.heap.size, 2, none⟩ = some (.int .i64 r) := (hb1.cell (p := ⟨w.heap.size, 2, none⟩) (by first | (go_size; done) | (simp; done) | (simp <;> omega))).trans (by go_simp)
  have f4 : w1.cell? ⟨w.heap.size, 3, none⟩ = some (.int .i64 s) := (hb1.cell (p := ⟨w.heap.size, 3, none⟩) (by first | (go_size; done) | (simp; done) | (simp <;> omega))).trans (by go_simp)
  have f5 : w1.cell? ⟨w.heap.size + 1, 0, none⟩ = some (.int .i64 t) := (hb1.cell (p := ⟨w.heap.size + 1, 0, none⟩) (by first | (go_size; done) | (simp; done) | (simp <;> omega))).trans (by go_simp)
  have f6 : w1.cell? ⟨w.heap.size + 1, 1, none⟩ = some (.int .i64 u) := (hb1.cell (p := ⟨w.heap.size + 1, 1, none⟩) (by first | (go_size; done) | (simp; done) | (simp <;> omega))).trans (by go_simp)
  have f7 : w1.cell? ⟨w.heap.size + 1, 2, none⟩ = some (.int .i64 v) := (hb1.cell (p := ⟨w.heap.size + 1, 2, none⟩) (by first | (go_size; done) | (simp; done) | (simp <;> omega))).trans (by go_simp)
  have f8 : w1.cell? ⟨w.heap.size + 1, 3, none⟩ = some (.int .i64 z) := (hb1.cell (p := ⟨w.heap.size + 1, 3, none⟩) (by first | (go_size; done) | (simp; done) | (simp <;> omega))).trans (by go_simp)
  have f9 : w1.cell? ⟨w.heap.size + 2, 0, none⟩ = some (.int .i64 0) := (hb1.cell (p := ⟨w.heap.size + 2, 0, none⟩) (by first | (go_size; done) | (simp; done) | (simp <;> omega))).trans (by go_simp)
  have z9 : w1.frozen? ⟨w.heap.size + 2, 0, none⟩ = false := (hb1.frozen (p := ⟨w.heap.size + 2, 0, none⟩) (by first | (go_size; done) | (simp; done) | (simp <;> omega))).trans (by go_simp)
  have f10 : w1.cell? ⟨w.heap.size + 2, 1, none⟩ = some (.int .i64 0) := (hb1.cell (p := ⟨w.heap.size + 2, 1, none⟩) (by first | (go_size; done) | (simp; done) | (simp <;> omega))).trans (by go_simp)
  have z10 : w1.frozen? ⟨w.heap.size + 2, 1, none⟩ = false := (hb1.frozen (p := ⟨w.heap.size + 2, 1, none⟩) (by first | (go_size; done) | (simp; done) | (simp <;> omega))).trans (by go_simp)
  have l11 : w.heap.size < w1.heap.size := World.block_lt_of_cell? _ _ f1
  have l12 : w.heap.size + 1 < w1.heap.size := World.block_lt_of_cell? _ _ f5
  have l13 : w.heap.size + 2 < w1.heap.size := World.block_lt_of_cell? _ _ f9
  have hZ1 := hB1.size
  go_wp2_with fail
  refine (sTrack_any _ _ _ _ _).mono ?_
  rintro en w2 ⟨rfl, hb2⟩
  have hB2 : Below w1.heap.size w1 w2 := by first | exact hb2 | exact Below.trans (by repeat (first | exact Below.refl _ _ | refine Below.drew ?_ | refine below_drewN ?_ _ | refine Below.alloc ?_ (by (try simp only [World.size_alloc, World.size_drew, size_drewN, World.size_setCell]); omega) _ | refine Below.setCell ?_ (by (try dsimp only); omega) _)) (hb2.mono (by (try simp only [World.size_alloc, World.size_drew, size_drewN, World.size_setCell]); omega))
  have f14 := later hB2 f1
  have f15 := later hB2 f2
  have f16 := later hB2 f3
  have f17 := later hB2 f4
  have f18 := later hB2 f5
  have f19 := later hB2 f6
  have f20 := later hB2 f7
  have f21 := later hB2 f8
  have f22 := later hB2 f9
  have z22 := laterF hB2 f9 z9
  have f23 := later hB2 f10
  have z23 := laterF hB2 f10 z10
  have l24 : w.heap.size < w2.heap.size := World.block_lt_of_cell? _ _ f14
  have l25 : w.heap.size + 1 < w2.heap.size := World.block_lt_of_cell? _ _ f18
  have l26 : w.heap.size + 2 < w2.heap.size := World.block_lt_of_cell? _ _ f22
  have hW2 := bseq hB1 (hB2)
  have hZ2 := hW2.size

  have HTS : Hid (∀ X : World, Below w2.heap.size w2 X → X.cell? ⟨w.heap.size, 0, none⟩ = some (.int .i64 p) ∧ X.cell? ⟨w.heap.size, 1, none⟩ = some (.int .i64 q) ∧ X.cell? ⟨w.heap.size, 2, none⟩ = some (.int .i64 r) ∧ X.cell? ⟨w.heap.size, 3, none⟩ = some (.int .i64 s) ∧ X.cell? ⟨w.heap.size + 1, 0, none⟩ = some (.int .i64 t) ∧ X.cell? ⟨w.heap.size + 1, 1, none⟩ = some (.int .i64 u) ∧ X.cell? ⟨w.heap.size + 1, 2, none⟩ = some (.int .i64 v) ∧ X.cell? ⟨w.heap.size + 1, 3, none⟩ = some (.int .i64 z) ∧ Below w2.heap.size w2 X) := fun X hB => ⟨later hB f14, later hB f15, later hB f16, later hB f17, later hB f18, later hB f19, later hB f20, later hB f21, hB⟩
  have ea : wrap64 (t - p) = a := by rw [← HA.out]; exact IntWalk.wrap64_in _ (by omega)
  have eb : wrap64 (u - q) = b := by rw [← HB.out]; exact IntWalk.wrap64_in _ (by omega)
  have ec : wrap64 (v - r) = c := by rw [← HC.out]; exact IntWalk.wrap64_in _ (by omega)
  have ed : wrap64 (z - s) = d := by rw [← HD.out]; exact IntWalk.wrap64_in _ (by omega)
  go_upto_region 3 with fail
  go_cut [6, 7] (fun s6 s7 w9 => ∃ g h : Nat, s6 = .pointer (some ⟨g, 0, none⟩) ∧ s7 = .pointer (some ⟨h, 0, none⟩) ∧ w9.cell? ⟨g, 0, none⟩ = some (.int .i64 a) ∧ w9.cell? ⟨g, 1, none⟩ = some (.int .i64 b) ∧ w9.cell? ⟨h, 0, none⟩ = some (.int .i64 c) ∧ w9.cell? ⟨h, 1, none⟩ = some (.int .i64 d) ∧ w2.heap.size ≤ g ∧ w2.heap.size ≤ h ∧ Below w2.heap.size w2 w9)
  case first =>
    go_region_held3 (fun w9 => w9.cell? ⟨w.heap.size, 0, none⟩ = some (.int .i64 p) ∧ w9.cell? ⟨w.heap.size, 1, none⟩ = some (.int .i64 q) ∧ w9.cell? ⟨w.heap.size, 2, none⟩ = some (.int .i64 r) ∧ w9.cell? ⟨w.heap.size, 3, none⟩ = some (.int .i64 s) ∧ w9.cell? ⟨w.heap.size + 1, 0, none⟩ = some (.int .i64 t) ∧ w9.cell? ⟨w.heap.size + 1, 1, none⟩ = some (.int .i64 u) ∧ w9.cell? ⟨w.heap.size + 1, 2, none⟩ = some (.int .i64 v) ∧ w9.cell? ⟨w.heap.size + 1, 3, none⟩ = some (.int .i64 z) ∧ Below w2.heap.size w2 w9) (first | with_reducible assumption | exact HTS.out _ (by repeat (first | assumption | exact Below.refl _ _ | refine Below.drew ?_ | refine Below.alloc ?_ (by (try simp only [World.size_alloc, World.size_drew, World.size_setCell]); omega) _ | refine Below.setCell ?_ (by (try dsimp only); omega) _))) (first | (go_at_call 83; refine (sLess_any _ _ _ _ _).mono ?_; rintro en w1 ⟨rfl, hb⟩; have hB9 : Below w2.heap.size w2 w1 := Below.trans (b := _) (by repeat (first | assumption | exact Below.refl _ _ | refine Below.drew ?_ | refine Below.alloc ?_ (by (try simp only [World.size_alloc, World.size_drew, World.size_setCell]); omega) _ | refine Below.setCell ?_ (by (try dsimp only); omega) _)) (hb.mono (by (try simp only [World.size_alloc, World.size_drew, World.size_setCell]); omega)); have hz9 := hB9.size; have hz8 := hb.size; (try simp only [World.size_alloc, World.size_drew, World.size_setCell] at hz8); (try have hz7 : w2.heap.size < w1.heap.size := (by omega)); (try have hz6 : w2.heap.size + 1 < w1.heap.size := (by omega)); (try have hy7 : ¬ w2.heap.size = w1.heap.size := (by omega)); (try have hy6 : ¬ w2.heap.size + 1 = w1.heap.size := (by omega)); (try have hy5 : ¬ w1.heap.size = w2.heap.size := (by omega)); (try have hz5 := Nat.lt_of_succ_le hz8); (try have hz4 := Nat.lt_of_succ_lt hz5); (try have hy4 := Nat.ne_of_lt hz5); (try have hy3 := Nat.ne_of_gt hz5); (try have hy2 := Nat.ne_of_lt hz4); (try have hy1 := Nat.ne_of_gt hz4); obtain ⟨hc, hf⟩ := bcell hb; clear hb))
    all_goals (go_wp2_with fail; go_meet)
    all_goals refine ⟨_, _, rfl, rfl, ?_, ?_, ?_, ?_, ?_, ?_, (by repeat (first | assumption | exact Below.refl _ _ | refine Below.drew ?_ | refine Below.alloc ?_ (by (try simp only [World.size_alloc, World.size_drew, World.size_setCell]); omega) _ | refine Below.setCell ?_ (by (try dsimp only); omega) _))⟩
    all_goals (first | go_simp | skip)
    all_goals first | exact World.cell?_setCell_same' _ _ _ (by go_simp) | omega

  case rest =>
    obtain ⟨bg, bh, rfl, rfl, gc0, gc1, hc0, hc1, gs, hs, hbx⟩ := hcut
    clear HA HB HC HD ea eb ec ed hb1 hb2 HTS f14 f15 f16 f17 f18 f19 f20 f21
    have hB3 := hbx
    have f27 := later hB3 f22
    have z27 := laterF hB3 f22 z22
    have f28 := later hB3 f23
    have z28 := laterF hB3 f23 z23
    have l29 : bg < wc.heap.size := World.block_lt_of_cell? _ _ gc0
    have l30 : bh < wc.heap.size := World.block_lt_of_cell? _ _ hc0
    have l31 : w.heap.size + 2 < wc.heap.size := World.block_lt_of_cell? _ _ f27
    have hW3 := bseq hB1 (bseq hB2 (hB3))
    have hZ3 := hW3.size
    by_cases z0 : c = 0 ∧ d = 0
    · obtain ⟨rfl, rfl⟩ := z0
      have HV : Hid (ctX a b 0 0 = 0 ∧ ctY a b 0 0 = 0 ∧ ctC a b 0 0 = 5) := ⟨rfl, rfl, rfl⟩
      go_wp2
      refine bodyPost_ret (v := .tuple #[.agg #[.int .i64 (ctX a b 0 0), .int .i64 (ctY a b 0 0)], .int .i64 (ctC a b 0 0)]) (by rw [HV.out.1, HV.out.2.1, HV.out.2.2]; simp [results, Try.results55, go_sem, gc0, gc1, hc0, hc1, f27, f28, z27, z28, l29, Nat.ne_of_lt l29, l30, Nat.ne_of_lt l30, l31, Nat.ne_of_lt l31]) rfl ⟨rfl, by have hx := hW3; first | (go_grown; done) | (repeat (first | exact hx | exact Below.refl _ _ | refine Below.drew ?_ | refine below_drewN ?_ _ | refine Below.alloc ?_ (by (try simp only [World.size_alloc, World.size_drew, size_drewN, World.size_setCell]); omega) _ | refine Below.setCell ?_ (by (try dsimp only); omega) _); done) | exact below_drewN (by go_grown) _⟩
    · have nb := norm_bd bc bd z0
      have dd := (dot_bd ba bb (c := c) (d := d) (by omega) (by omega)).2
      have HZ : isZ c d = false := by unfold isZ; simpa using z0
      rcases Int.lt_or_le (dot a b c d) 0 with t0 | t0
      · have HV : Hid (ctX a b c d = ratX (-dot a b c d) (dot c d c d) ∧ ctY a b c d = ratY (-dot a b c d) (dot c d c d) ∧ ctC a b c d = ratC (-dot a b c d) (dot c d c d) 3) := by
          show _ ∧ _ ∧ _; unfold ctX ctY ctC; rw [HZ, tmT_neg t0]; exact ⟨rfl, rfl, rfl⟩
        clear HZ
        by_cases c0 : c = 0
        · subst c0
          have d0 : ¬ d = 0 := fun h => z0 ⟨rfl, h⟩
          clear z0
          have ew : IntKind.i64.wrap (-(dot a b 0 d)) = -(dot a b 0 d) := IntWalk.i64_in _ (by omega)
          have ew0 : IntKind.i64.wrap 0 = 0 := IntWalk.i64_in _ (by omega)
          go_wp2_with fail
          have HTS : Hid (∀ X : World, Below wc.heap.size wc X → X.cell? ⟨bg, 0, none⟩ = some (.int .i64 a) ∧ X.cell? ⟨bg, 1, none⟩ = some (.int .i64 b) ∧ X.cell? ⟨bh, 0, none⟩ = some (.int .i64 0) ∧ X.cell? ⟨bh, 1, none⟩ = some (.int .i64 d)) := fun X hB => ⟨later hB gc0, later hB gc1, later hB hc0, later hB hc1⟩
          have HB0 : Hid (Below wc.heap.size wc wc) := Below.refl _ _
          (try have n32 : ¬ bg = bh := (by omega))
          (try have n33 : ¬ bg = w.heap.size + 2 := (by omega))
          (try have n34 : ¬ bh = bg := (by omega))
          (try have n35 : ¬ bh = w.heap.size + 2 := (by omega))
          (try have n36 : ¬ w.heap.size + 2 = bg := (by omega))
          (try have n37 : ¬ w.heap.size + 2 = bh := (by omega))
          go_region_held3 (fun w9 => w9.cell? ⟨bg, 0, none⟩ = some (.int .i64 a) ∧ w9.cell? ⟨bg, 1, none⟩ = some (.int .i64 b) ∧ w9.cell? ⟨bh, 0, none⟩ = some (.int .i64 0) ∧ w9.cell? ⟨bh, 1, none⟩ = some (.int .i64 d)) (first | with_reducible assumption | (focus (refine HTS.out _ ?_; (repeat (first | assumption | exact Below.refl _ _ | refine Below.drew ?_ | refine below_drewN ?_ _ | (refine Below.alloc ?_ ?_ _; rotate_left; ((try simp only [World.size_alloc, World.size_drew, size_drewN, World.size_setCell]); omega)) | (refine Below.setCell ?_ ?_ _; rotate_left; ((try dsimp only); omega)))); done)) | go_keep) (first | (go_at_call 93; refine (sDot_any _ _ _ _ _).mono ?_; rintro en wx ⟨rfl, hb⟩; have hB9 : Below wc.heap.size wc wx := Below.trans (b := _) (by first | assumption | (repeat (first | assumption | exact Below.refl _ _ | refine Below.drew ?_ | refine below_drewN ?_ _ | refine Below.alloc ?_ (by (try simp only [World.size_alloc, World.size_drew, size_drewN, World.size_setCell]); omega) _ | refine Below.setCell ?_ (by (try dsimp only); omega) _))) (hb.mono (by (try simp only [World.size_alloc, World.size_drew, size_drewN, World.size_setCell]); omega)); have hz9 := hB9.size; clear hb; have r0 : wx.cell? ⟨bg, 0, none⟩ = some (.int .i64 a) := later hB9 gc0; have r1 : wx.cell? ⟨bg, 1, none⟩ = some (.int .i64 b) := later hB9 gc1; have r2 : wx.cell? ⟨bh, 0, none⟩ = some (.int .i64 0) := later hB9 hc0; have r3 : wx.cell? ⟨bh, 1, none⟩ = some (.int .i64 d) := later hB9 hc1; have r4 : wx.cell? ⟨w.heap.size + 2, 0, none⟩ = some (.int .i64 0) := later hB9 f27; have rz4 : wx.frozen? ⟨w.heap.size + 2, 0, none⟩ = false := laterF hB9 f27 z27; have r5 : wx.cell? ⟨w.heap.size + 2, 1, none⟩ = some (.int .i64 0) := later hB9 f28; have rz5 : wx.frozen? ⟨w.heap.size + 2, 1, none⟩ = false := laterF hB9 f28 z28) | (go_at_call 102; refine (l12Ratio_any _ _ _ (by omega) (by omega) (by omega)).mono ?_; rintro en wx ⟨rfl, hb⟩; have hB9 : Below wc.heap.size wc wx := Below.trans (b := _) (by first | assumption | (repeat (first | assumption | exact Below.refl _ _ | refine Below.drew ?_ | refine below_drewN ?_ _ | refine Below.alloc ?_ (by (try simp only [World.size_alloc, World.size_drew, size_drewN, World.size_setCell]); omega) _ | refine Below.setCell ?_ (by (try dsimp only); omega) _))) (hb.mono (by (try simp only [World.size_alloc, World.size_drew, size_drewN, World.size_setCell]); omega)); have hz9 := hB9.size; clear hb; have r0 : wx.cell? ⟨bg, 0, none⟩ = some (.int .i64 a) := later hB9 gc0; have r1 : wx.cell? ⟨bg, 1, none⟩ = some (.int .i64 b) := later hB9 gc1; have r2 : wx.cell? ⟨bh, 0, none⟩ = some (.int .i64 0) := later hB9 hc0; have r3 : wx.cell? ⟨bh, 1, none⟩ = some (.int .i64 d) := later hB9 hc1; have r4 : wx.cell? ⟨w.heap.size + 2, 0, none⟩ = some (.int .i64 0) := later hB9 f27; have rz4 : wx.frozen? ⟨w.heap.size + 2, 0, none⟩ = false := laterF hB9 f27 z27; have r5 : wx.cell? ⟨w.heap.size + 2, 1, none⟩ = some (.int .i64 0) := later hB9 f28; have rz5 : wx.frozen? ⟨w.heap.size + 2, 1, none⟩ = false := laterF hB9 f28 z28))
          all_goals (have hB4 : Below wc.heap.size wc wx := (by assumption); have hW4 := bseq hB1 (bseq hB2 (bseq hB3 (hB4))); have hZ4 := hW4.size; go_wp2; refine bodyPost_ret (v := .tuple #[.agg #[.int .i64 (ctX a b 0 d), .int .i64 (ctY a b 0 d)], .int .i64 (ctC a b 0 d)]) (by rw [HV.out.1, HV.out.2.1, HV.out.2.2]; simp [results, Try.results55, go_sem, r0, r1, r2, r3, r4, r5, rz4, rz5, l29, Nat.ne_of_lt l29, l30, Nat.ne_of_lt l30, l31, Nat.ne_of_lt l31]) rfl ⟨rfl, by have hx := hW4; first | (go_grown; done) | (repeat (first | exact hx | exact Below.refl _ _ | refine Below.drew ?_ | refine below_drewN ?_ _ | refine Below.alloc ?_ (by (try simp only [World.size_alloc, World.size_drew, size_drewN, World.size_setCell]); omega) _ | refine Below.setCell ?_ (by (try dsimp only); omega) _); done) | exact below_drewN (by go_grown) _⟩)
        · clear z0
          have ew : IntKind.i64.wrap (-(dot a b c d)) = -(dot a b c d) := IntWalk.i64_in _ (by omega)
          have ew0 : IntKind.i64.wrap 0 = 0 := IntWalk.i64_in _ (by omega)
          go_wp2_with fail
          have HTS : Hid (∀ X : World, Below wc.heap.size wc X → X.cell? ⟨bg, 0, none⟩ = some (.int .i64 a) ∧ X.cell? ⟨bg, 1, none⟩ = some (.int .i64 b) ∧ X.cell? ⟨bh, 0, none⟩ = some (.int .i64 c) ∧ X.cell? ⟨bh, 1, none⟩ = some (.int .i64 d)) := fun X hB => ⟨later hB gc0, later hB gc1, later hB hc0, later hB hc1⟩
          have HB0 : Hid (Below wc.heap.size wc wc) := Below.refl _ _
          (try have n32 : ¬ bg = bh := (by omega))
          (try have n33 : ¬ bg = w.heap.size + 2 := (by omega))
          (try have n34 : ¬ bh = bg := (by omega))
          (try have n35 : ¬ bh = w.heap.size + 2 := (by omega))
          (try have n36 : ¬ w.heap.size + 2 = bg := (by omega))
          (try have n37 : ¬ w.heap.size + 2 = bh := (by omega))
          go_region_held3 (fun w9 => w9.cell? ⟨bg, 0, none⟩ = some (.int .i64 a) ∧ w9.cell? ⟨bg, 1, none⟩ = some (.int .i64 b) ∧ w9.cell? ⟨bh, 0, none⟩ = some (.int .i64 c) ∧ w9.cell? ⟨bh, 1, none⟩ = some (.int .i64 d)) (first | with_reducible assumption | (focus (refine HTS.out _ ?_; (repeat (first | assumption | exact Below.refl _ _ | refine Below.drew ?_ | refine below_drewN ?_ _ | (refine Below.alloc ?_ ?_ _; rotate_left; ((try simp only [World.size_alloc, World.size_drew, size_drewN, World.size_setCell]); omega)) | (refine Below.setCell ?_ ?_ _; rotate_left; ((try dsimp only); omega)))); done)) | go_keep) (first | (go_at_call 93; refine (sDot_any _ _ _ _ _).mono ?_; rintro en wx ⟨rfl, hb⟩; have hB9 : Below wc.heap.size wc wx := Below.trans (b := _) (by first | assumption | (repeat (first | assumption | exact Below.refl _ _ | refine Below.drew ?_ | refine below_drewN ?_ _ | refine Below.alloc ?_ (by (try simp only [World.size_alloc, World.size_drew, size_drewN, World.size_setCell]); omega) _ | refine Below.setCell ?_ (by (try dsimp only); omega) _))) (hb.mono (by (try simp only [World.size_alloc, World.size_drew, size_drewN, World.size_setCell]); omega)); have hz9 := hB9.size; clear hb; have r0 : wx.cell? ⟨bg, 0, none⟩ = some (.int .i64 a) := later hB9 gc0; have r1 : wx.cell? ⟨bg, 1, none⟩ = some (.int .i64 b) := later hB9 gc1; have r2 : wx.cell? ⟨bh, 0, none⟩ = some (.int .i64 c) := later hB9 hc0; have r3 : wx.cell? ⟨bh, 1, none⟩ = some (.int .i64 d) := later hB9 hc1; have r4 : wx.cell? ⟨w.heap.size + 2, 0, none⟩ = some (.int .i64 0) := later hB9 f27; have rz4 : wx.frozen? ⟨w.heap.size + 2, 0, none⟩ = false := laterF hB9 f27 z27; have r5 : wx.cell? ⟨w.heap.size + 2, 1, none⟩ = some (.int .i64 0) := later hB9 f28; have rz5 : wx.frozen? ⟨w.heap.size + 2, 1, none⟩ = false := laterF hB9 f28 z28) | (go_at_call 102; refine (l12Ratio_any _ _ _ (by omega) (by omega) (by omega)).mono ?_; rintro en wx ⟨rfl, hb⟩; have hB9 : Below wc.heap.size wc wx := Below.trans (b := _) (by first | assumption | (repeat (first | assumption | exact Below.refl _ _ | refine Below.drew ?_ | refine below_drewN ?_ _ | refine Below.alloc ?_ (by (try simp only [World.size_alloc, World.size_drew, size_drewN, World.size_setCell]); omega) _ | refine Below.setCell ?_ (by (try dsimp only); omega) _))) (hb.mono (by (try simp only [World.size_alloc, World.size_drew, size_drewN, World.size_setCell]); omega)); have hz9 := hB9.size; clear hb; have r0 : wx.cell? ⟨bg, 0, none⟩ = some (.int .i64 a) := later hB9 gc0; have r1 : wx.cell? ⟨bg, 1, none⟩ = some (.int .i64 b) := later hB9 gc1; have r2 : wx.cell? ⟨bh, 0, none⟩ = some (.int .i64 c) := later hB9 hc0; have r3 : wx.cell? ⟨bh, 1, none⟩ = some (.int .i64 d) := later hB9 hc1; have r4 : wx.cell? ⟨w.heap.size + 2, 0, none⟩ = some (.int .i64 0) := later hB9 f27; have rz4 : wx.frozen? ⟨w.heap.size + 2, 0, none⟩ = false := laterF hB9 f27 z27; have r5 : wx.cell? ⟨w.heap.size + 2, 1, none⟩ = some (.int .i64 0) := later hB9 f28; have rz5 : wx.frozen? ⟨w.heap.size + 2, 1, none⟩ = false := laterF hB9 f28 z28))
          all_goals (have hB4 : Below wc.heap.size wc wx := (by assumption); have hW4 := bseq hB1 (bseq hB2 (bseq hB3 (hB4))); have hZ4 := hW4.size; go_wp2; refine bodyPost_ret (v := .tuple #[.agg #[.int .i64 (ctX a b c d), .int .i64 (ctY a b c d)], .int .i64 (ctC a b c d)]) (by rw [HV.out.1, HV.out.2.1, HV.out.2.2]; simp [results, Try.results55, go_sem, r0, r1, r2, r3, r4, r5, rz4, rz5, l29, Nat.ne_of_lt l29, l30, Nat.ne_of_lt l30, l31, Nat.ne_of_lt l31]) rfl ⟨rfl, by have hx := hW4; first | (go_grown; done) | (repeat (first | exact hx | exact Below.refl _ _ | refine Below.drew ?_ | refine below_drewN ?_ _ | refine Below.alloc ?_ (by (try simp only [World.size_alloc, World.size_drew, size_drewN, World.size_setCell]); omega) _ | refine Below.setCell ?_ (by (try dsimp only); omega) _); done) | exact below_drewN (by go_grown) _⟩)
      · have HV : Hid (ctX a b c d = ratX 0 (dot c d c d) ∧ ctY a b c d = ratY 0 (dot c d c d) ∧ ctC a b c d = ratC 0 (dot c d c d) 3) := by
          show _ ∧ _ ∧ _; unfold ctX ctY ctC; rw [HZ, tmT_pos t0]; exact ⟨rfl, rfl, rfl⟩
        clear HZ
        by_cases c0 : c = 0
        · subst c0
          have d0 : ¬ d = 0 := fun h => z0 ⟨rfl, h⟩
          clear z0
          have ew : IntKind.i64.wrap (-(dot a b 0 d)) = -(dot a b 0 d) := IntWalk.i64_in _ (by omega)
          have ew0 : IntKind.i64.wrap 0 = 0 := IntWalk.i64_in _ (by omega)
          go_wp2_with fail
          have HTS : Hid (∀ X : World, Below wc.heap.size wc X → X.cell? ⟨bg, 0, none⟩ = some (.int .i64 a) ∧ X.cell? ⟨bg, 1, none⟩ = some (.int .i64 b) ∧ X.cell? ⟨bh, 0, none⟩ = some (.int .i64 0) ∧ X.cell? ⟨bh, 1, none⟩ = some (.int .i64 d)) := fun X hB => ⟨later hB gc0, later hB gc1, later hB hc0, later hB hc1⟩
          have HB0 : Hid (Below wc.heap.size wc wc) := Below.refl _ _
          (try have n32 : ¬ bg = bh := (by omega))
          (try have n33 : ¬ bg = w.heap.size + 2 := (by omega))
          (try have n34 : ¬ bh = bg := (by omega))
          (try have n35 : ¬ bh = w.heap.size + 2 := (by omega))
          (try have n36 : ¬ w.heap.size + 2 = bg := (by omega))
          (try have n37 : ¬ w.heap.size + 2 = bh := (by omega))
          go_region_held3 (fun w9 => w9.cell? ⟨bg, 0, none⟩ = some (.int .i64 a) ∧ w9.cell? ⟨bg, 1, none⟩ = some (.int .i64 b) ∧ w9.cell? ⟨bh, 0, none⟩ = some (.int .i64 0) ∧ w9.cell? ⟨bh, 1, none⟩ = some (.int .i64 d)) (first | with_reducible assumption | (focus (refine HTS.out _ ?_; (repeat (first | assumption | exact Below.refl _ _ | refine Below.drew ?_ | refine below_drewN ?_ _ | (refine Below.alloc ?_ ?_ _; rotate_left; ((try simp only [World.size_alloc, World.size_drew, size_drewN, World.size_setCell]); omega)) | (refine Below.setCell ?_ ?_ _; rotate_left; ((try dsimp only); omega)))); done)) | go_keep) (first | (go_at_call 93; refine (sDot_any _ _ _ _ _).mono ?_; rintro en wx ⟨rfl, hb⟩; have hB9 : Below wc.heap.size wc wx := Below.trans (b := _) (by first | assumption | (repeat (first | assumption | exact Below.refl _ _ | refine Below.drew ?_ | refine below_drewN ?_ _ | refine Below.alloc ?_ (by (try simp only [World.size_alloc, World.size_drew, size_drewN, World.size_setCell]); omega) _ | refine Below.setCell ?_ (by (try dsimp only); omega) _))) (hb.mono (by (try simp only [World.size_alloc, World.size_drew, size_drewN, World.size_setCell]); omega)); have hz9 := hB9.size; clear hb; have r0 : wx.cell? ⟨bg, 0, none⟩ = some (.int .i64 a) := later hB9 gc0; have r1 : wx.cell? ⟨bg, 1, none⟩ = some (.int .i64 b) := later hB9 gc1; have r2 : wx.cell? ⟨bh, 0, none⟩ = some (.int .i64 0) := later hB9 hc0; have r3 : wx.cell? ⟨bh, 1, none⟩ = some (.int .i64 d) := later hB9 hc1; have r4 : wx.cell? ⟨w.heap.size + 2, 0, none⟩ = some (.int .i64 0) := later hB9 f27; have rz4 : wx.frozen? ⟨w.heap.size + 2, 0, none⟩ = false := laterF hB9 f27 z27; have r5 : wx.cell? ⟨w.heap.size + 2, 1, none⟩ = some (.int .i64 0) := later hB9 f28; have rz5 : wx.frozen? ⟨w.heap.size + 2, 1, none⟩ = false := laterF hB9 f28 z28) | (go_at_call 102; refine (l12Ratio_any _ _ _ (by omega) (by omega) (by omega)).mono ?_; rintro en wx ⟨rfl, hb⟩; have hB9 : Below wc.heap.size wc wx := Below.trans (b := _) (by first | assumption | (repeat (first | assumption | exact Below.refl _ _ | refine Below.drew ?_ | refine below_drewN ?_ _ | refine Below.alloc ?_ (by (try simp only [World.size_alloc, World.size_drew, size_drewN, World.size_setCell]); omega) _ | refine Below.setCell ?_ (by (try dsimp only); omega) _))) (hb.mono (by (try simp only [World.size_alloc, World.size_drew, size_drewN, World.size_setCell]); omega)); have hz9 := hB9.size; clear hb; have r0 : wx.cell? ⟨bg, 0, none⟩ = some (.int .i64 a) := later hB9 gc0; have r1 : wx.cell? ⟨bg, 1, none⟩ = some (.int .i64 b) := later hB9 gc1; have r2 : wx.cell? ⟨bh, 0, none⟩ = some (.int .i64 0) := later hB9 hc0; have r3 : wx.cell? ⟨bh, 1, none⟩ = some (.int .i64 d) := later hB9 hc1; have r4 : wx.cell? ⟨w.heap.size + 2, 0, none⟩ = some (.int .i64 0) := later hB9 f27; have rz4 : wx.frozen? ⟨w.heap.size + 2, 0, none⟩ = false := laterF hB9 f27 z27; have r5 : wx.cell? ⟨w.heap.size + 2, 1, none⟩ = some (.int .i64 0) := later hB9 f28; have rz5 : wx.frozen? ⟨w.heap.size + 2, 1, none⟩ = false := laterF hB9 f28 z28))
          all_goals (have hB4 : Below wc.heap.size wc wx := (by assumption); have hW4 := bseq hB1 (bseq hB2 (bseq hB3 (hB4))); have hZ4 := hW4.size; go_wp2; refine bodyPost_ret (v := .tuple #[.agg #[.int .i64 (ctX a b 0 d), .int .i64 (ctY a b 0 d)], .int .i64 (ctC a b 0 d)]) (by rw [HV.out.1, HV.out.2.1, HV.out.2.2]; simp [results, Try.results55, go_sem, r0, r1, r2, r3, r4, r5, rz4, rz5, l29, Nat.ne_of_lt l29, l30, Nat.ne_of_lt l30, l31, Nat.ne_of_lt l31]) rfl ⟨rfl, by have hx := hW4; first | (go_grown; done) | (repeat (first | exact hx | exact Below.refl _ _ | refine Below.drew ?_ | refine below_drewN ?_ _ | refine Below.alloc ?_ (by (try simp only [World.size_alloc, World.size_drew, size_drewN, World.size_setCell]); omega) _ | refine Below.setCell ?_ (by (try dsimp only); omega) _); done) | exact below_drewN (by go_grown) _⟩)
        · clear z0
          have ew : IntKind.i64.wrap (-(dot a b c d)) = -(dot a b c d) := IntWalk.i64_in _ (by omega)
          have ew0 : IntKind.i64.wrap 0 = 0 := IntWalk.i64_in _ (by omega)
          go_wp2_with fail
          have HTS : Hid (∀ X : World, Below wc.heap.size wc X → X.cell? ⟨bg, 0, none⟩ = some (.int .i64 a) ∧ X.cell? ⟨bg, 1, none⟩ = some (.int .i64 b) ∧ X.cell? ⟨bh, 0, none⟩ = some (.int .i64 c) ∧ X.cell? ⟨bh, 1, none⟩ = some (.int .i64 d)) := fun X hB => ⟨later hB gc0, later hB gc1, later hB hc0, later hB hc1⟩
          have HB0 : Hid (Below wc.heap.size wc wc) := Below.refl _ _
          (try have n32 : ¬ bg = bh := (by omega))
          (try have n33 : ¬ bg = w.heap.size + 2 := (by omega))
          (try have n34 : ¬ bh = bg := (by omega))
          (try have n35 : ¬ bh = w.heap.size + 2 := (by omega))
          (try have n36 : ¬ w.heap.size + 2 = bg := (by omega))
          (try have n37 : ¬ w.heap.size + 2 = bh := (by omega))
          go_region_held3 (fun w9 => w9.cell? ⟨bg, 0, none⟩ = some (.int .i64 a) ∧ w9.cell? ⟨bg, 1, none⟩ = some (.int .i64 b) ∧ w9.cell? ⟨bh, 0, none⟩ = some (.int .i64 c) ∧ w9.cell? ⟨bh, 1, none⟩ = some (.int .i64 d)) (first | with_reducible assumption | (focus (refine HTS.out _ ?_; (repeat (first | assumption | exact Below.refl _ _ | refine Below.drew ?_ | refine below_drewN ?_ _ | (refine Below.alloc ?_ ?_ _; rotate_left; ((try simp only [World.size_alloc, World.size_drew, size_drewN, World.size_setCell]); omega)) | (refine Below.setCell ?_ ?_ _; rotate_left; ((try dsimp only); omega)))); done)) | go_keep) (first | (go_at_call 93; refine (sDot_any _ _ _ _ _).mono ?_; rintro en wx ⟨rfl, hb⟩; have hB9 : Below wc.heap.size wc wx := Below.trans (b := _) (by first | assumption | (repeat (first | assumption | exact Below.refl _ _ | refine Below.drew ?_ | refine below_drewN ?_ _ | refine Below.alloc ?_ (by (try simp only [World.size_alloc, World.size_drew, size_drewN, World.size_setCell]); omega) _ | refine Below.setCell ?_ (by (try dsimp only); omega) _))) (hb.mono (by (try simp only [World.size_alloc, World.size_drew, size_drewN, World.size_setCell]); omega)); have hz9 := hB9.size; clear hb; have r0 : wx.cell? ⟨bg, 0, none⟩ = some (.int .i64 a) := later hB9 gc0; have r1 : wx.cell? ⟨bg, 1, none⟩ = some (.int .i64 b) := later hB9 gc1; have r2 : wx.cell? ⟨bh, 0, none⟩ = some (.int .i64 c) := later hB9 hc0; have r3 : wx.cell? ⟨bh, 1, none⟩ = some (.int .i64 d) := later hB9 hc1; have r4 : wx.cell? ⟨w.heap.size + 2, 0, none⟩ = some (.int .i64 0) := later hB9 f27; have rz4 : wx.frozen? ⟨w.heap.size + 2, 0, none⟩ = false := laterF hB9 f27 z27; have r5 : wx.cell? ⟨w.heap.size + 2, 1, none⟩ = some (.int .i64 0) := later hB9 f28; have rz5 : wx.frozen? ⟨w.heap.size + 2, 1, none⟩ = false := laterF hB9 f28 z28) | (go_at_call 102; refine (l12Ratio_any _ _ _ (by omega) (by omega) (by omega)).mono ?_; rintro en wx ⟨rfl, hb⟩; have hB9 : Below wc.heap.size wc wx := Below.trans (b := _) (by first | assumption | (repeat (first | assumption | exact Below.refl _ _ | refine Below.drew ?_ | refine below_drewN ?_ _ | refine Below.alloc ?_ (by (try simp only [World.size_alloc, World.size_drew, size_drewN, World.size_setCell]); omega) _ | refine Below.setCell ?_ (by (try dsimp only); omega) _))) (hb.mono (by (try simp only [World.size_alloc, World.size_drew, size_drewN, World.size_setCell]); omega)); have hz9 := hB9.size; clear hb; have r0 : wx.cell? ⟨bg, 0, none⟩ = some (.int .i64 a) := later hB9 gc0; have r1 : wx.cell? ⟨bg, 1, none⟩ = some (.int .i64 b) := later hB9 gc1; have r2 : wx.cell? ⟨bh, 0, none⟩ = some (.int .i64 c) := later hB9 hc0; have r3 : wx.cell? ⟨bh, 1, none⟩ = some (.int .i64 d) := later hB9 hc1; have r4 : wx.cell? ⟨w.heap.size + 2, 0, none⟩ = some (.int .i64 0) := later hB9 f27; have rz4 : wx.frozen? ⟨w.heap.size + 2, 0, none⟩ = false := laterF hB9 f27 z27; have r5 : wx.cell? ⟨w.heap.size + 2, 1, none⟩ = some (.int .i64 0) := later hB9 f28; have rz5 : wx.frozen? ⟨w.heap.size + 2, 1, none⟩ = false := laterF hB9 f28 z28))
          all_goals (have hB4 : Below wc.heap.size wc wx := (by assumption); have hW4 := bseq hB1 (bseq hB2 (bseq hB3 (hB4))); have hZ4 := hW4.size; go_wp2; refine bodyPost_ret (v := .tuple #[.agg #[.int .i64 (ctX a b c d), .int .i64 (ctY a b c d)], .int .i64 (ctC a b c d)]) (by rw [HV.out.1, HV.out.2.1, HV.out.2.2]; simp [results, Try.results55, go_sem, r0, r1, r2, r3, r4, r5, rz4, rz5, l29, Nat.ne_of_lt l29, l30, Nat.ne_of_lt l30, l31, Nat.ne_of_lt l31]) rfl ⟨rfl, by have hx := hW4; first | (go_grown; done) | (repeat (first | exact hx | exact Below.refl _ _ | refine Below.drew ?_ | refine below_drewN ?_ _ | refine Below.alloc ?_ (by (try simp only [World.size_alloc, World.size_drew, size_drewN, World.size_setCell]); omega) _ | refine Below.setCell ?_ (by (try dsimp only); omega) _); done) | exact below_drewN (by go_grown) _⟩)

set_option maxHeartbeats 8000000 in
theorem sCT_any (p q r s t u v z : Int) (w : World) :
    Calls Try.prog 55 #[.agg #[.int .i64 p, .int .i64 q, .int .i64 r, .int .i64 s], .agg #[.int .i64 t, .int .i64 u, .int .i64 v, .int .i64 z]] w fun en w9 => en = .returned (.tuple #[.agg #[.int .i64 (onTr ctX 0 p q r s t u v z), .int .i64 (onTr ctY 0 p q r s t u v z)], .int .i64 (onTr ctC 1 p q r s t u v z)]) ∧ Below w.heap.size w w9 := by
  rcases Bool.eq_false_or_eq_true (trk2 p q r s t u v z) with h1 | h1
  · obtain ⟨a, b, c, d, HA, HB, HC, HD, ba, bb, bc, bd⟩ := diffs h1
    have HM : onTr ctX 0 p q r s t u v z = ctX a b c d ∧ onTr ctY 0 p q r s t u v z = ctY a b c d ∧ onTr ctC 1 p q r s t u v z = ctC a b c d := by rw [← HA.out, ← HB.out, ← HC.out, ← HD.out]; simp [onTr, h1]
    rw [HM.1, HM.2.1, HM.2.2]
    exact sCTYes_any p q r s t u v z a b c d w h1 HA HB HC HD ba bb bc bd
  · have HV : Hid (onTr ctX 0 p q r s t u v z = 0 ∧ onTr ctY 0 p q r s t u v z = 0 ∧ onTr ctC 1 p q r s t u v z = 1) := by show _ ∧ _ ∧ _; simp [onTr, h1]
    rcases trk2_no h1 with k1 | ⟨k1, k2⟩
    · clear h1
      go_enter Try.func55, Try.ntmps55
      go_wp2_with fail
      refine (sTrack_any _ _ _ _ _).mono ?_
      rintro en w1 ⟨rfl, hb1⟩
      have hB1 : Below w.heap.size w w1 := by first | exact hb1 | exact Below.trans (by repeat (first | exact Below.refl _ _ | refine Below.drew ?_ | refine below_drewN ?_ _ | refine Below.alloc ?_ (by (try simp only [World.size_alloc, World.size_drew, size_drewN, World.size_setCell]); omega) _ | refine Below.setCell ?_ (by (try dsimp only); omega) _)) (hb1.mono (by (try simp only [World.size_alloc, World.size_drew, size_drewN, World.size_setCell]); omega))
      have f1 : w1.cell? ⟨w.heap.size, 0, none⟩ = some (.int .i64 p) := (hb1.cell (p := ⟨w.heap.size, 0, none⟩) (by first | (go_size; done) | (simp; done) | (simp <;> omega))).trans (by go_simp)
      have f2 : w1.cell? ⟨w.heap.size, 1, none⟩ = some (.int .i64 q) := (hb1.cell (p := ⟨w.heap.size, 1, none⟩) (by first | (go_size; done) | (simp; done) | (simp <;> omega))).trans (by go_simp)
      have f3 : w1.cell? ⟨w.heap.size, 2, none⟩ = some (.int .i64 r) := (hb1.cell (p := ⟨w.heap.size, 2, none⟩) (by first | (go_size; done) | (simp; done) | (simp <;> omega))).trans (by go_simp)
      have f4 : w1.cell? ⟨w.heap.size, 3, none⟩ = some (.int .i64 s) := (hb1.cell (p := ⟨w.heap.size, 3, none⟩) (by first | (go_size; done) | (simp; done) | (simp <;> omega))).trans (by go_simp)
      have f5 : w1.cell? ⟨w.heap.size + 1, 0, none⟩ = some (.int .i64 t) := (hb1.cell (p := ⟨w.heap.size + 1, 0, none⟩) (by first | (go_size; done) | (simp; done) | (simp <;> omega))).trans (by go_simp)
      have f6 : w1.cell? ⟨w.heap.size + 1, 1, none⟩ = some (.int .i64 u) := (hb1.cell (p := ⟨w.heap.size + 1, 1, none⟩) (by first | (go_size; done) | (simp; done) | (simp <;> omega))).trans (by go_simp)
      have f7 : w1.cell? ⟨w.heap.size + 1, 2, none⟩ = some (.int .i64 v) := (hb1.cell (p := ⟨w.heap.size + 1, 2, none⟩) (by first | (go_size; done) | (simp; done) | (simp <;> omega))).trans (by go_simp)
      have f8 : w1.cell? ⟨w.heap.size + 1, 3, none⟩ = some (.int .i64 z) := (hb1.cell (p := ⟨w.heap.size + 1, 3, none⟩) (by first | (go_size; done) | (simp; done) | (simp <;> omega))).trans (by go_simp)
      have f9 : w1.cell? ⟨w.heap.size + 2, 0, none⟩ = some (.int .i64 0) := (hb1.cell (p := ⟨w.heap.size + 2, 0, none⟩) (by first | (go_size; done) | (simp; done) | (simp <;> omega))).trans (by go_simp)
      have z9 : w1.frozen? ⟨w.heap.size + 2, 0, none⟩ = false := (hb1.frozen (p := ⟨w.heap.size + 2, 0, none⟩) (by first | (go_size; done) | (simp; done) | (simp <;> omega))).trans (by go_simp)
      have f10 : w1.cell? ⟨w.heap.size + 2, 1, none⟩ = some (.int .i64 0) := (hb1.cell (p := ⟨w.heap.size + 2, 1, none⟩) (by first | (go_size; done) | (simp; done) | (simp <;> omega))).trans (by go_simp)
      have z10 : w1.frozen? ⟨w.heap.size + 2, 1, none⟩ = false := (hb1.frozen (p := ⟨w.heap.size + 2, 1, none⟩) (by first | (go_size; done) | (simp; done) | (simp <;> omega))).trans (by go_simp)
      have l11 : w.heap.size < w1.heap.size := World.block_lt_of_cell? _ _ f1
      have l12 : w.heap.size + 1 < w1.heap.size := World.block_lt_of_cell? _ _ f5
      have l13 : w.heap.size + 2 < w1.heap.size := World.block_lt_of_cell? _ _ f9
      have hZ1 := hB1.size
      go_wp2
      refine bodyPost_ret (v := .tuple #[.agg #[.int .i64 (onTr ctX 0 p q r s t u v z), .int .i64 (onTr ctY 0 p q r s t u v z)], .int .i64 (onTr ctC 1 p q r s t u v z)]) (by rw [HV.out.1, HV.out.2.1, HV.out.2.2]; simp [results, Try.results55, go_sem, f1, f2, f3, f4, f5, f6, f7, f8, f9, f10, z9, z10, l11, Nat.ne_of_lt l11, l12, Nat.ne_of_lt l12, l13, Nat.ne_of_lt l13]) rfl ⟨rfl, by have hx := hB1; first | (go_grown; done) | (repeat (first | exact hx | exact Below.refl _ _ | refine Below.drew ?_ | refine below_drewN ?_ _ | refine Below.alloc ?_ (by (try simp only [World.size_alloc, World.size_drew, size_drewN, World.size_setCell]); omega) _ | refine Below.setCell ?_ (by (try dsimp only); omega) _); done) | exact below_drewN (by go_grown) _⟩
    · clear h1
      go_enter Try.func55, Try.ntmps55
      go_wp2_with fail
      refine (sTrack_any _ _ _ _ _).mono ?_
      rintro en w1 ⟨rfl, hb1⟩
      have hB1 : Below w.heap.size w w1 := by first | exact hb1 | exact Below.trans (by repeat (first | exact Below.refl _ _ | refine Below.drew ?_ | refine below_drewN ?_ _ | refine Below.alloc ?_ (by (try simp only [World.size_alloc, World.size_drew, size_drewN, World.size_setCell]); omega) _ | refine Below.setCell ?_ (by (try dsimp only); omega) _)) (hb1.mono (by (try simp only [World.size_alloc, World.size_drew, size_drewN, World.size_setCell]); omega))
      have f1 : w1.cell? ⟨w.heap.size, 0, none⟩ = some (.int .i64 p) := (hb1.cell (p := ⟨w.heap.size, 0, none⟩) (by first | (go_size; done) | (simp; done) | (simp <;> omega))).trans (by go_simp)
      have f2 : w1.cell? ⟨w.heap.size, 1, none⟩ = some (.int .i64 q) := (hb1.cell (p := ⟨w.heap.size, 1, none⟩) (by first | (go_size; done) | (simp; done) | (simp <;> omega))).trans (by go_simp)
      have f3 : w1.cell? ⟨w.heap.size, 2, none⟩ = some (.int .i64 r) := (hb1.cell (p := ⟨w.heap.size, 2, none⟩) (by first | (go_size; done) | (simp; done) | (simp <;> omega))).trans (by go_simp)
      have f4 : w1.cell? ⟨w.heap.size, 3, none⟩ = some (.int .i64 s) := (hb1.cell (p := ⟨w.heap.size, 3, none⟩) (by first | (go_size; done) | (simp; done) | (simp <;> omega))).trans (by go_simp)
      have f5 : w1.cell? ⟨w.heap.size + 1, 0, none⟩ = some (.int .i64 t) := (hb1.cell (p := ⟨w.heap.size + 1, 0, none⟩) (by first | (go_size; done) | (simp; done) | (simp <;> omega))).trans (by go_simp)
      have f6 : w1.cell? ⟨w.heap.size + 1, 1, none⟩ = some (.int .i64 u) := (hb1.cell (p := ⟨w.heap.size + 1, 1, none⟩) (by first | (go_size; done) | (simp; done) | (simp <;> omega))).trans (by go_simp)
      have f7 : w1.cell? ⟨w.heap.size + 1, 2, none⟩ = some (.int .i64 v) := (hb1.cell (p := ⟨w.heap.size + 1, 2, none⟩) (by first | (go_size; done) | (simp; done) | (simp <;> omega))).trans (by go_simp)
      have f8 : w1.cell? ⟨w.heap.size + 1, 3, none⟩ = some (.int .i64 z) := (hb1.cell (p := ⟨w.heap.size + 1, 3, none⟩) (by first | (go_size; done) | (simp; done) | (simp <;> omega))).trans (by go_simp)
      have f9 : w1.cell? ⟨w.heap.size + 2, 0, none⟩ = some (.int .i64 0) := (hb1.cell (p := ⟨w.heap.size + 2, 0, none⟩) (by first | (go_size; done) | (simp; done) | (simp <;> omega))).trans (by go_simp)
      have z9 : w1.frozen? ⟨w.heap.size + 2, 0, none⟩ = false := (hb1.frozen (p := ⟨w.heap.size + 2, 0, none⟩) (by first | (go_size; done) | (simp; done) | (simp <;> omega))).trans (by go_simp)
      have f10 : w1.cell? ⟨w.heap.size + 2, 1, none⟩ = some (.int .i64 0) := (hb1.cell (p := ⟨w.heap.size + 2, 1, none⟩) (by first | (go_size; done) | (simp; done) | (simp <;> omega))).trans (by go_simp)
      have z10 : w1.frozen? ⟨w.heap.size + 2, 1, none⟩ = false := (hb1.frozen (p := ⟨w.heap.size + 2, 1, none⟩) (by first | (go_size; done) | (simp; done) | (simp <;> omega))).trans (by go_simp)
      have l11 : w.heap.size < w1.heap.size := World.block_lt_of_cell? _ _ f1
      have l12 : w.heap.size + 1 < w1.heap.size := World.block_lt_of_cell? _ _ f5
      have l13 : w.heap.size + 2 < w1.heap.size := World.block_lt_of_cell? _ _ f9
      have hZ1 := hB1.size
      go_wp2_with fail
      refine (sTrack_any _ _ _ _ _).mono ?_
      rintro en w2 ⟨rfl, hb2⟩
      have hB2 : Below w1.heap.size w1 w2 := by first | exact hb2 | exact Below.trans (by repeat (first | exact Below.refl _ _ | refine Below.drew ?_ | refine below_drewN ?_ _ | refine Below.alloc ?_ (by (try simp only [World.size_alloc, World.size_drew, size_drewN, World.size_setCell]); omega) _ | refine Below.setCell ?_ (by (try dsimp only); omega) _)) (hb2.mono (by (try simp only [World.size_alloc, World.size_drew, size_drewN, World.size_setCell]); omega))
      have f14 := later hB2 f1
      have f15 := later hB2 f2
      have f16 := later hB2 f3
      have f17 := later hB2 f4
      have f18 := later hB2 f5
      have f19 := later hB2 f6
      have f20 := later hB2 f7
      have f21 := later hB2 f8
      have f22 := later hB2 f9
      have z22 := laterF hB2 f9 z9
      have f23 := later hB2 f10
      have z23 := laterF hB2 f10 z10
      have l24 : w.heap.size < w2.heap.size := World.block_lt_of_cell? _ _ f14
      have l25 : w.heap.size + 1 < w2.heap.size := World.block_lt_of_cell? _ _ f18
      have l26 : w.heap.size + 2 < w2.heap.size := World.block_lt_of_cell? _ _ f22
      have hW2 := bseq hB1 (hB2)
      have hZ2 := hW2.size
      go_wp2
      refine bodyPost_ret (v := .tuple #[.agg #[.int .i64 (onTr ctX 0 p q r s t u v z), .int .i64 (onTr ctY 0 p q r s t u v z)], .int .i64 (onTr ctC 1 p q r s t u v z)]) (by rw [HV.out.1, HV.out.2.1, HV.out.2.2]; simp [results, Try.results55, go_sem, f14, f15, f16, f17, f18, f19, f20, f21, f22, f23, z22, z23, l24, Nat.ne_of_lt l24, l25, Nat.ne_of_lt l25, l26, Nat.ne_of_lt l26]) rfl ⟨rfl, by have hx := hW2; first | (go_grown; done) | (repeat (first | exact hx | exact Below.refl _ _ | refine Below.drew ?_ | refine below_drewN ?_ _ | refine Below.alloc ?_ (by (try simp only [World.size_alloc, World.size_drew, size_drewN, World.size_setCell]); omega) _ | refine Below.setCell ?_ (by (try dsimp only); omega) _); done) | exact below_drewN (by go_grown) _⟩
end Go.Proofs.Ytoccglmlpobeeaa
