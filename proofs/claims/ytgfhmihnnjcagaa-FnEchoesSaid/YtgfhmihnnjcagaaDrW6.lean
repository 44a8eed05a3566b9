/- walks: pulses and echoes drawn -/
import Derived.Test.YtgfhmihnnjcagaaDrW5
import Derived.Test.YtgfhmihnnjcagaaW14
set_option linter.unusedVariables false
set_option linter.unusedSimpArgs false
namespace Go.Proofs.Ytgfhmihnnjcagaa
open Go.RowKit

def PulPost (s : Nat) (w : World) (en : Ending) (w9 : World) : Prop := ∃ (v : Value) (xs : List Int), en = .returned v ∧ OwnV w9 w.heap.size v xs ∧ 1 ≤ xs.length ∧ xs.length ≤ 8 ∧ Src w9 s ∧ Gs s w w9
set_option maxRecDepth 100000 in
set_option maxHeartbeats 8000000 in
theorem dPulse_any (s : Nat) (w : World) (h : Src w s) : Calls Try.prog 117 #[.pointer (some ⟨s, 0, none⟩)] w (PulPost s w) := by
  have ls0 := h.lt
  go_enter Try.func117, Try.ntmps117
  have HO0 := Lib.hid (OwnV.empty w w.heap.size (Nat.le_refl _))
  go_wp2_with fail
  refine (next_any s _ _ (by repeat (first | with_reducible exact h | with_reducible refine Src.alloc ?_ _))).mono ?_
  rintro en w1 ⟨x, rfl, x0, xb, hs, hg⟩
  have HS1 := Lib.hid hs
  have HG1 : Hid (Gs s w w1) := Gs.trans (by repeat (first | with_reducible exact (Gs.refl s w) | with_reducible refine Gs.alloc ?_ _)) hg
  have HO1_0 : Hid (OwnV w1 w.heap.size (.slice (some ⟨w.heap.size, 0, none⟩) 0 0) ([])) := OwnV.gs (by repeat (first | with_reducible exact HO0.out | with_reducible refine OwnV.alloc ?_ _)) hg ls0
  have hz1 : w.heap.size ≤ w1.heap.size := HG1.out.size
  have lq1 : s < w1.heap.size := HS1.out.lt
  clear hs hg
  have hxm : x ≤ 7 := by omega
  go_wp2
  go_loopw [3, 4] (fun v i wr => ∃ (j : Nat) (xs : List Int), i = .int .i64 (j : Int) ∧ xs.length + j ≤ 8 ∧ 1 ≤ xs.length + j ∧ Hid (OwnV wr w.heap.size v xs) ∧ w.heap.size ≤ wr.heap.size ∧ Hid (Src wr s) ∧ Hid (Gs s w wr)) (fun _ i _ => (intOf i).toNat)
  case atStart => exact ⟨(1 + x).toNat, [], by congr 1; omega, by simp; omega, by simp; omega, HO1_0, hz1, HS1, HG1⟩
  
  case round =>
    obtain ⟨j, xs, rfl, hl, hl1, HV, hz, HR, HH⟩ := hrel
    have hlq := HR.out.lt
    cases j with
    | zero =>
      go_wp2
      go_ret
      exact ⟨_, xs, rfl, HV.out, by omega, by omega, HR.out, HH.out⟩
    | succ j =>
      have hj : (0 : Int) < ((j + 1 : Nat) : Int) := by omega
      go_wp2_with fail
      refine (pick_any s _ 7 7 [1, (-1), 1, (-1), 2, (-3), 0] _ (by repeat (first | with_reducible exact HR.out | with_reducible refine Src.alloc ?_ _)) rfl (by decide) (by decide) (Rd.new2 _ _ [1, (-1), 1, (-1), 2, (-3), 0] (by first | (simp only [World.size_alloc]; done) | (go_size; done))) (fun b off e => by cases e; omega)).mono ?_
      rintro en w11 ⟨y, rfl, ym, hs, hg⟩
      have HS11 := Lib.hid hs
      have HG11 : Hid (Gs s w w11) := Gs.trans (by repeat (first | with_reducible exact HH.out | with_reducible refine Gs.alloc ?_ _)) hg
      have HO11_0 : Hid (OwnV w11 w.heap.size (u3) (xs)) := OwnV.gs (by repeat (first | with_reducible exact HV.out | with_reducible refine OwnV.alloc ?_ _)) hg ls0
      have hz11 : w.heap.size ≤ w11.heap.size := HG11.out.size
      have lq11 : s < w11.heap.size := HS11.out.lt
      clear hs hg
      go_wp2_with (at_builtin; refine app_int rfl _ _ rfl w.heap.size (u3) (xs) rfl (OwnV.alloc (by repeat (first | with_reducible exact HO11_0.out | with_reducible refine OwnV.alloc ?_ _)) _) (y) _ rfl (cell_new1 _ _) (by omega) (by simp only [World.size_alloc]; omega) ?_; intro g12 cap12 w12 hown hb)
      have HS12 := Lib.hid (Src.low (Src.alloc (by repeat (first | with_reducible exact HS11.out | with_reducible refine Src.alloc ?_ _)) _) hb ls0)
      have HG12 : Hid (Gs s w w12) := Gs.then (Gs.alloc (by repeat (first | with_reducible exact HG11.out | with_reducible refine Gs.alloc ?_ _)) _) hb
      have HO12_0 : Hid (OwnV w12 w.heap.size (.slice (some ⟨g12, 0, none⟩) ((xs).length + 1) cap12) (xs ++ [y])) := hown
      have hz12 : w.heap.size ≤ w12.heap.size := HG12.out.size
      have lq12 : s < w12.heap.size := HS12.out.lt
      clear hown hb
      go_roundw
      case rel => exact ⟨j, xs ++ [y], by go_num, by simp; omega, by simp; omega, HO12_0, hz12, HS12, HG12⟩
      case measure => simp [intOf]
end Go.Proofs.Ytgfhmihnnjcagaa
