/- walks: pulses drawn -/
import Derived.Test.YtfmhbphbgdijpaaDrW3
import Derived.BigRegion
set_option linter.unusedVariables false
set_option linter.unusedSimpArgs false
namespace Go.Proofs.Ytfmhbphbgdijpaa
open Go.RowKit

theorem own_zeros (w : World) (B k : Nat) (hk : k ≤ 500) (hB : B ≤ w.heap.size) : OwnV (w.alloc (.cells (zeros k) 2)) B (.slice (some ⟨w.heap.size, 0, none⟩) k k) (List.replicate k 0) :=
  ⟨by simp, .inr ⟨w.heap.size, k, zeros k, by simp, hB, heap_alloc_new w _, by simp, by unfold maxLen; omega, by simp [zeros], by simp [zeros]⟩⟩
set_option maxRecDepth 100000 in
set_option maxHeartbeats 8000000 in
theorem d09_any (s : Nat) (w : World) (h : Src w s) : Calls Try.prog 93 #[.pointer (some ⟨s, 0, none⟩)] w (LstPost 500 s w) := by
  have ls0 := h.lt
  go_enter Try.func93, Try.ntmps93
  have HO0 := Lib.hid (OwnV.empty w w.heap.size (Nat.le_refl _))
  go_wp2_with fail
  refine (pick_any s _ 4 4 [3, 10, 100, 1000] _ (by repeat (first | with_reducible exact h | with_reducible refine Src.alloc ?_ _)) rfl (by decide) (by decide) (Rd.new2 _ _ [3, 10, 100, 1000] (by first | (simp only [World.size_alloc]; done) | (go_size; done))) (fun b off e => by cases e; omega)).mono ?_
  rintro en w1 ⟨sz, rfl, szm, hs, hg⟩
  have HS1 := Lib.hid hs
  have HG1 : Hid (Gs s w w1) := Gs.trans (by repeat (first | with_reducible exact (Gs.refl s w) | with_reducible refine Gs.alloc ?_ _)) hg
  have HO1_0 : Hid (OwnV w1 w.heap.size (.slice (some ⟨w.heap.size, 0, none⟩) 0 0) ([])) := OwnV.gs (by repeat (first | with_reducible exact HO0.out | with_reducible refine OwnV.alloc ?_ _)) hg ls0
  have hz1 : w.heap.size ≤ w1.heap.size := HG1.out.size
  have lq1 : s < w1.heap.size := HS1.out.lt
  clear hs hg
  go_wp2_with fail
  refine (next_any s _ _ (by repeat (first | with_reducible exact HS1.out | with_reducible refine Src.alloc ?_ _))).mono ?_
  rintro en w2 ⟨x, rfl, x0, xb, hs, hg⟩
  have HS2 := Lib.hid hs
  have HG2 : Hid (Gs s w w2) := Gs.trans (by repeat (first | with_reducible exact HG1.out | with_reducible refine Gs.alloc ?_ _)) hg
  have HO2_0 : Hid (OwnV w2 w.heap.size (.slice (some ⟨w.heap.size, 0, none⟩) 0 0) ([])) := OwnV.gs (by repeat (first | with_reducible exact HO1_0.out | with_reducible refine OwnV.alloc ?_ _)) hg ls0
  have hz2 : w.heap.size ≤ w2.heap.size := HG2.out.size
  have lq2 : s < w2.heap.size := HS2.out.lt
  clear hs hg
  have hs4 : 0 ≤ sz ∧ sz ≤ 1000 := by simp at szm; omega
  clear szm
  have hx13 : x ≤ 13 := by omega
  go_wp2
  go_loopw [3, 5] (fun v i wr => ∃ (j : Nat) (xs : List Int), i = .int .i64 (j : Int) ∧ xs.length + j ≤ 13 ∧ Hid (OwnV wr w.heap.size v xs) ∧ w.heap.size ≤ wr.heap.size ∧ Hid (Src wr s) ∧ Hid (Gs s w wr)) (fun _ i _ => (intOf i).toNat)
  case atStart => exact ⟨x.toNat, [], by congr 1; omega, by simp; omega, HO2_0, hz2, HS2, HG2⟩
  
  case round =>
    obtain ⟨j, xs, rfl, hl, HV, hz, HR, HH⟩ := hrel
    have hlq := HR.out.lt
    cases j with
    | zero =>
      go_wp2_with fail
      refine (next_any s _ _ (by repeat (first | with_reducible exact HR.out | with_reducible refine Src.alloc ?_ _))).mono ?_
      rintro en w21 ⟨z, rfl, z0, zb, hs, hg⟩
      have HS21 := Lib.hid hs
      have HG21 : Hid (Gs s w w21) := Gs.trans (by repeat (first | with_reducible exact HH.out | with_reducible refine Gs.alloc ?_ _)) hg
      have HO21_0 : Hid (OwnV w21 w.heap.size (u3) (xs)) := OwnV.gs (by repeat (first | with_reducible exact HV.out | with_reducible refine OwnV.alloc ?_ _)) hg ls0
      have hz21 : w.heap.size ≤ w21.heap.size := HG21.out.size
      have lq21 : s < w21.heap.size := HS21.out.lt
      clear hs hg
      by_cases e0 : z = 0
      · have e1 : (z == 0) = true := by simpa using e0
        clear e0
        go_wp2_with fail
        refine (pick_any s _ 3 3 [1000, 1001, (-1001)] _ (by repeat (first | with_reducible exact HS21.out | with_reducible refine Src.alloc ?_ _)) rfl (by decide) (by decide) (Rd.new2 _ _ [1000, 1001, (-1001)] (by first | (simp only [World.size_alloc]; done) | (go_size; done))) (fun b off e => by cases e; omega)).mono ?_
        rintro en w22 ⟨y, rfl, ym, hs, hg⟩
        have HS22 := Lib.hid hs
        have HG22 : Hid (Gs s w w22) := Gs.trans (by repeat (first | with_reducible exact HG21.out | with_reducible refine Gs.alloc ?_ _)) hg
        have HO22_0 : Hid (OwnV w22 w.heap.size (u3) (xs)) := OwnV.gs (by repeat (first | with_reducible exact HO21_0.out | with_reducible refine OwnV.alloc ?_ _)) hg ls0
        have hz22 : w.heap.size ≤ w22.heap.size := HG22.out.size
        have lq22 : s < w22.heap.size := HS22.out.lt
        clear hs hg
        go_wp2_with (at_builtin; refine app_int rfl _ _ rfl w.heap.size (u3) (xs) rfl (OwnV.alloc (by repeat (first | with_reducible exact HO22_0.out | with_reducible refine OwnV.alloc ?_ _)) _) (y) _ rfl (cell_new1 _ _) (by omega) (by simp only [World.size_alloc]; omega) ?_; intro g23 cap23 w23 hown hb)
        have HS23 := Lib.hid (Src.low (Src.alloc (by repeat (first | with_reducible exact HS22.out | with_reducible refine Src.alloc ?_ _)) _) hb ls0)
        have HG23 : Hid (Gs s w w23) := Gs.then (Gs.alloc (by repeat (first | with_reducible exact HG22.out | with_reducible refine Gs.alloc ?_ _)) _) hb
        have HO23_0 : Hid (OwnV w23 w.heap.size (.slice (some ⟨g23, 0, none⟩) ((xs).length + 1) cap23) (xs ++ [y])) := hown
        have hz23 : w.heap.size ≤ w23.heap.size := HG23.out.size
        have lq23 : s < w23.heap.size := HS23.out.lt
        clear hown hb
        go_wp2
        go_ret
        exact ⟨.slice (some ⟨g23, 0, none⟩) ((xs).length + 1) cap23, xs ++ [y], rfl, (by repeat (first | with_reducible exact HO23_0.out | with_reducible refine OwnV.alloc ?_ _)), (by simp; omega), (by repeat (first | with_reducible exact HS23.out | with_reducible refine Src.alloc ?_ _)), (by repeat (first | with_reducible exact HG23.out | with_reducible refine Gs.alloc ?_ _))⟩
      · have e1 : (z == 0) = false := by simpa using e0
        clear e0
        by_cases e2 : z = 1
        · have e3 : (z == 1) = true := by simpa using e2
          clear e2
          go_wp2_with fail
          refine (next_any s _ _ (by repeat (first | with_reducible exact HS21.out | with_reducible refine Src.alloc ?_ _))).mono ?_
          rintro en w22 ⟨y, rfl, y0, yb, hs, hg⟩
          have HS22 := Lib.hid hs
          have HG22 : Hid (Gs s w w22) := Gs.trans (by repeat (first | with_reducible exact HG21.out | with_reducible refine Gs.alloc ?_ _)) hg
          have HO22_0 : Hid (OwnV w22 w.heap.size (u3) (xs)) := OwnV.gs (by repeat (first | with_reducible exact HO21_0.out | with_reducible refine OwnV.alloc ?_ _)) hg ls0
          have hz22 : w.heap.size ≤ w22.heap.size := HG22.out.size
          have lq22 : s < w22.heap.size := HS22.out.lt
          clear hs hg
          obtain ⟨k, hk⟩ : ∃ k : Nat, (k : Int) = 400 + y := ⟨(400 + y).toNat, by omega⟩
          have hk4 : k ≤ 500 := by omega
          have hmk := mk_ints k (by omega)
          rw [hk] at hmk
          go_wp2
          go_ret
          exact ⟨_, List.replicate k 0, rfl, own_zeros _ _ _ (by omega) (by omega), by simp; omega, (by repeat (first | with_reducible exact HS22.out | with_reducible refine Src.alloc ?_ _)), (by repeat (first | with_reducible exact HG22.out | with_reducible refine Gs.alloc ?_ _))⟩
        · have e3 : (z == 1) = false := by simpa using e2
          clear e2
          go_wp2
          go_ret
          exact ⟨u3, xs, rfl, (by repeat (first | with_reducible exact HO21_0.out | with_reducible refine OwnV.alloc ?_ _)), (by omega), (by repeat (first | with_reducible exact HS21.out | with_reducible refine Src.alloc ?_ _)), (by repeat (first | with_reducible exact HG21.out | with_reducible refine Gs.alloc ?_ _))⟩
    | succ j =>
      have hj : (0 : Int) < ((j + 1 : Nat) : Int) := by omega
      go_wp2_with fail
      refine (next_any s _ _ (by repeat (first | with_reducible exact HR.out | with_reducible refine Src.alloc ?_ _))).mono ?_
      rintro en w11 ⟨y, rfl, y0, yb, hs, hg⟩
      have HS11 := Lib.hid hs
      have HG11 : Hid (Gs s w w11) := Gs.trans (by repeat (first | with_reducible exact HH.out | with_reducible refine Gs.alloc ?_ _)) hg
      have HO11_0 : Hid (OwnV w11 w.heap.size (u3) (xs)) := OwnV.gs (by repeat (first | with_reducible exact HV.out | with_reducible refine OwnV.alloc ?_ _)) hg ls0
      have hz11 : w.heap.size ≤ w11.heap.size := HG11.out.size
      have lq11 : s < w11.heap.size := HS11.out.lt
      clear hs hg
      go_wp2_with (at_builtin; refine app_int rfl _ _ rfl w.heap.size (u3) (xs) rfl (OwnV.alloc (by repeat (first | with_reducible exact HO11_0.out | with_reducible refine OwnV.alloc ?_ _)) _) ((y - sz)) _ rfl (cell_new1 _ _) (by omega) (by simp only [World.size_alloc]; omega) ?_; intro g12 cap12 w12 hown hb)
      have HS12 := Lib.hid (Src.low (Src.alloc (by repeat (first | with_reducible exact HS11.out | with_reducible refine Src.alloc ?_ _)) _) hb ls0)
      have HG12 : Hid (Gs s w w12) := Gs.then (Gs.alloc (by repeat (first | with_reducible exact HG11.out | with_reducible refine Gs.alloc ?_ _)) _) hb
      have HO12_0 : Hid (OwnV w12 w.heap.size (.slice (some ⟨g12, 0, none⟩) ((xs).length + 1) cap12) (xs ++ [(y - sz)])) := hown
      have hz12 : w.heap.size ≤ w12.heap.size := HG12.out.size
      have lq12 : s < w12.heap.size := HS12.out.lt
      clear hown hb
      go_roundw
      case rel => exact ⟨j, xs ++ [(y - sz)], by go_num, by simp; omega, HO12_0, hz12, HS12, HG12⟩
      case measure => simp [intOf]

def PulPost (s : Nat) (w : World) (en : Ending) (w9 : World) : Prop := ∃ (v : Value) (xs : List Int), en = .returned v ∧ OwnV w9 w.heap.size v xs ∧ 1 ≤ xs.length ∧ xs.length ≤ 8 ∧ Src w9 s ∧ Gs s w w9
set_option maxRecDepth 100000 in
set_option maxHeartbeats 8000000 in
theorem dPulse_any (s : Nat) (w : World) (h : Src w s) : Calls Try.prog 71 #[.pointer (some ⟨s, 0, none⟩)] w (PulPost s w) := by
  have ls0 := h.lt
  go_enter Try.func71, Try.ntmps71
  have HO0 := Lib.hid (OwnV.empty w w.heap.size (Nat.le_refl _))
  go_wp2_with fail
  refine (next_any s _ _ (by repeat (first | with_reducible exact h | with_reducible refine Src.alloc ?_ _))).mono ?_
  rintro en w1 ⟨x, rfl, x0, xb, hs, hg⟩
  have HS1 := Lib.hid hs
  have HG1 : Hid (Gs s w w1) := Gs.trans (by repeat (first | with_reducible exact (Gs.refl s w) | with_reducible refine Gs.alloc ?_ _)) hg
  have HO1_0 : Hid (OwnV w1 w.heap.size (.slice (some ⟨w.heap.size, 0, none⟩) 0 0) ([])) := OwnV.gs (by repeat (first | with_reducible exact HO0.out | with_reducible refine OwnV.alloc ?_ _)) hg ls0
  have hz1 : w.heap.size ≤ w1.heap.size := HG1.out.size
  have lq1 : s < w1.heap.size := HS1.out.lt
  clear hs hg
  have hxm : x ≤ 7 := by omega
  go_wp2
  go_loopw [3, 4] (fun v i wr => ∃ (j : Nat) (xs : List Int), i = .int .i64 (j : Int) ∧ xs.length + j ≤ 8 ∧ 1 ≤ xs.length + j ∧ Hid (OwnV wr w.heap.size v xs) ∧ w.heap.size ≤ wr.heap.size ∧ Hid (Src wr s) ∧ Hid (Gs s w wr)) (fun _ i _ => (intOf i).toNat)
  case atStart => exact ⟨(1 + x).toNat, [], by congr 1; omega, by simp; omega, by simp; omega, HO1_0, hz1, HS1, HG1⟩
  
  case round =>
    obtain ⟨j, xs, rfl, hl, hl1, HV, hz, HR, HH⟩ := hrel
    have hlq := HR.out.lt
    cases j with
    | zero =>
      go_wp2
      go_ret
      exact ⟨_, xs, rfl, HV.out, by omega, by omega, HR.out, HH.out⟩
    | succ j =>
      have hj : (0 : Int) < ((j + 1 : Nat) : Int) := by omega
      go_wp2_with fail
      refine (pick_any s _ 7 7 [1, (-1), 1, (-1), 2, (-3), 0] _ (by repeat (first | with_reducible exact HR.out | with_reducible refine Src.alloc ?_ _)) rfl (by decide) (by decide) (Rd.new2 _ _ [1, (-1), 1, (-1), 2, (-3), 0] (by first | (simp only [World.size_alloc]; done) | (go_size; done))) (fun b off e => by cases e; omega)).mono ?_
      rintro en w11 ⟨y, rfl, ym, hs, hg⟩
      have HS11 := Lib.hid hs
      have HG11 : Hid (Gs s w w11) := Gs.trans (by repeat (first | with_reducible exact HH.out | with_reducible refine Gs.alloc ?_ _)) hg
      have HO11_0 : Hid (OwnV w11 w.heap.size (u3) (xs)) := OwnV.gs (by repeat (first | with_reducible exact HV.out | with_reducible refine OwnV.alloc ?_ _)) hg ls0
      have hz11 : w.heap.size ≤ w11.heap.size := HG11.out.size
      have lq11 : s < w11.heap.size := HS11.out.lt
      clear hs hg
      go_wp2_with (at_builtin; refine app_int rfl _ _ rfl w.heap.size (u3) (xs) rfl (OwnV.alloc (by repeat (first | with_reducible exact HO11_0.out | with_reducible refine OwnV.alloc ?_ _)) _) (y) _ rfl (cell_new1 _ _) (by omega) (by simp only [World.size_alloc]; omega) ?_; intro g12 cap12 w12 hown hb)
      have HS12 := Lib.hid (Src.low (Src.alloc (by repeat (first | with_reducible exact HS11.out | with_reducible refine Src.alloc ?_ _)) _) hb ls0)
      have HG12 : Hid (Gs s w w12) := Gs.then (Gs.alloc (by repeat (first | with_reducible exact HG11.out | with_reducible refine Gs.alloc ?_ _)) _) hb
      have HO12_0 : Hid (OwnV w12 w.heap.size (.slice (some ⟨g12, 0, none⟩) ((xs).length + 1) cap12) (xs ++ [y])) := hown
      have hz12 : w.heap.size ≤ w12.heap.size := HG12.out.size
      have lq12 : s < w12.heap.size := HS12.out.lt
      clear hown hb
      go_roundw
      case rel => exact ⟨j, xs ++ [y], by go_num, by simp; omega, by simp; omega, HO12_0, hz12, HS12, HG12⟩
      case measure => simp [intOf]
end Go.Proofs.Ytfmhbphbgdijpaa
