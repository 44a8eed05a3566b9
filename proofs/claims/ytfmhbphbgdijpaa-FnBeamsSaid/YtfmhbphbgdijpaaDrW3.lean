/- walks: what the laws draw -/
import Derived.Test.YtfmhbphbgdijpaaDrW2
set_option linter.unusedVariables false
set_option linter.unusedSimpArgs false
namespace Go.Proofs.Ytfmhbphbgdijpaa
open Go.RowKit

/-- a struct of three numbers in a block, and that it may be written -/
def Box (w : World) (b : Nat) (c s h : Int) : Prop := w.cell? ⟨b, 0, none⟩ = some (.int .i64 c) ∧ w.cell? ⟨b, 1, none⟩ = some (.int .i64 s) ∧ w.cell? ⟨b, 2, none⟩ = some (.int .i64 h)
def BoxW (w : World) (b : Nat) (c s h : Int) : Prop := Box w b c s h ∧ w.frozen? ⟨b, 0, none⟩ = false ∧ w.frozen? ⟨b, 1, none⟩ = false ∧ w.frozen? ⟨b, 2, none⟩ = false
theorem Box.below {w w2 : World} {b : Nat} {c s h : Int} (k : Box w b c s h) (hb : Below w.heap.size w w2) : Box w2 b c s h := ⟨later hb k.1, later hb k.2.1, later hb k.2.2⟩
theorem Box.gs {t : Nat} {w w2 : World} {b : Nat} {c s h : Int} (k : Box w b c s h) (hg : Gs t w w2) (hn : b ≠ t) : Box w2 b c s h := ⟨hg.cell2 k.1 hn, hg.cell2 k.2.1 hn, hg.cell2 k.2.2 hn⟩
theorem BoxW.below {w w2 : World} {b : Nat} {c s h : Int} (k : BoxW w b c s h) (hb : Below w.heap.size w w2) : BoxW w2 b c s h :=
  ⟨k.1.below hb, laterF hb k.1.1 k.2.1, laterF hb k.1.2.1 k.2.2.1, laterF hb k.1.2.2 k.2.2.2⟩
theorem BoxW.gs {t : Nat} {w w2 : World} {b : Nat} {c s h : Int} (k : BoxW w b c s h) (hg : Gs t w w2) (hn : b ≠ t) : BoxW w2 b c s h :=
  ⟨k.1.gs hg hn, hg.frozen2 k.1.1 hn k.2.1, hg.frozen2 k.1.2.1 hn k.2.2.1, hg.frozen2 k.1.2.2 hn k.2.2.2⟩
theorem BoxW.new (w : World) (t : TypeId) (c s h : Int) : BoxW (w.alloc (.cells #[.int .i64 c, .int .i64 s, .int .i64 h] t)) w.heap.size c s h := by
  refine ⟨⟨?_, ?_, ?_⟩, ?_, ?_, ?_⟩
  · rw [World.cell?_alloc_new]; rfl
  · rw [World.cell?_alloc_new]; rfl
  · rw [World.cell?_alloc_new]; rfl
  · exact World.frozen?_alloc_new _ _ _ _
  · exact World.frozen?_alloc_new _ _ _ _
  · exact World.frozen?_alloc_new _ _ _ _
theorem res_four {fn : Func} {t u v x : Tmp} (h : fn.results = #[.tmp t, .tmp u, .tmp v, .tmp x]) (tmps : Array Value) (P : Program) (w : World) :
    (results fn tmps).run P w = .ok (.tuple #[tmps.getD t undef, tmps.getD u undef, tmps.getD v undef, tmps.getD x undef]) w := by
  simp [results, h]
def DlyDraw (w : World) (en : Ending) (w9 : World) : Prop := ∃ (A : Option Addr) (p cp : Nat) (xs : List Int) (c s h r v : Int), en = .returned (.tuple #[.slice A p cp, .agg #[.int .i64 c, .int .i64 s, .int .i64 h], .int .i64 r, .int .i64 v]) ∧ xs.length = p ∧ p ≤ cp ∧ p ≤ 8 ∧ Rd w9 A xs ∧ Below w.heap.size w w9

/-- a slice that can be read, not in block s -/
def RdS (s : Nat) (w : World) (A : Option Addr) (xs : List Int) : Prop :=
  xs = [] ∨ ∃ b off, A = some ⟨b, off, none⟩ ∧ b ≠ s ∧ ∀ k, k < xs.length → w.cell? ⟨b, off + k, none⟩ = some (.int .i64 (xs.getD k 0))
theorem RdS.rd {s : Nat} {w : World} {A : Option Addr} {xs : List Int} (h : RdS s w A xs) : Rd w A xs := by
  rcases h with h | ⟨b, off, e, _, h⟩
  · exact .inl h
  · exact .inr ⟨b, off, e, h⟩
theorem RdS.gs {s : Nat} {w w2 : World} {A : Option Addr} {xs : List Int} (h : RdS s w A xs) (hg : Gs s w w2) : RdS s w2 A xs := by
  rcases h with h | ⟨b, off, e, hn, h⟩
  · exact .inl h
  · exact .inr ⟨b, off, e, hn, fun k hk => hg.cell2 (h k hk) hn⟩
theorem Cells.rds {s : Nat} {w : World} {g : Nat} {xs : List Int} (h : Cells w g 0 xs) (hn : g ≠ s) : RdS s w (some ⟨g, 0, none⟩) xs := .inr ⟨g, 0, rfl, hn, h.1⟩
theorem OwnV.rds {s : Nat} {w : World} {B n c : Nat} {A : Option Addr} {xs : List Int} (h : OwnV w B (.slice A n c) xs) (hs : s < B) : RdS s w A xs := by
  obtain ⟨A2, c2, e, hR⟩ := h.R
  injection e with e1 e2 e3
  subst e1
  rcases hR.2.2 with ⟨_, h0⟩ | ⟨g, e4, hB, _, hc⟩
  · exact .inl (List.eq_nil_of_length_eq_zero h0)
  · subst e4
    exact hc.rds (by omega)

set_option maxRecDepth 100000 in
set_option maxHeartbeats 8000000 in
theorem dDly_any (A : Option Addr) (n c : Nat) (w : World) (hr : RdB w A n) (hm : n ≤ 4096) : Calls Try.prog 45 #[.slice A n c] w (DlyDraw w) := by
  have ha0 : Below w.heap.size w (w.alloc (.cells #[.int .i64 0, .int .i64 0, .int .i64 0] 42)) := Below.alloc (Below.refl _ _) (Nat.le_refl _) _
  go_enter Try.func45, Try.ntmps45
  go_wp2_with fail
  refine (from_any A n c _ (RdB.below hr ha0) hm).mono ?_
  rintro en w1 ⟨s, rfl, hs1, hS1, hb1⟩
  have hs0 : w.heap.size < s := by simp only [World.size_alloc] at hs1; omega
  have ls0 := hS1.lt
  have HB1 : Hid (Below w.heap.size w w1) := ha0.trans (hb1.mono (by simp only [World.size_alloc]; omega))
  have HX1 : Hid (BoxW w1 w.heap.size 0 0 0) := (BoxW.new w 42 0 0 0).below hb1
  have hz1 : w.heap.size < w1.heap.size := by have := hb1.size; simp only [World.size_alloc] at this; omega
  clear hr hb1 ha0
  go_wp2_with fail
  refine (dTimes_any s _ (by repeat (first | with_reducible exact hS1 | with_reducible refine Src.alloc ?_ _))).mono ?_
  rintro en w2 ⟨r, v, rfl, hs, hg⟩
  have HS2 := Lib.hid hs
  have HG2 : Hid (Gs s w1 w2) := Gs.trans (by repeat (first | with_reducible exact (Gs.refl s w1) | with_reducible refine Gs.alloc ?_ _)) hg
  have hz2 : w1.heap.size ≤ w2.heap.size := HG2.out.size
  have lq2 : s < w2.heap.size := HS2.out.lt
  clear hs hg
  go_wp2_with fail
  refine (dArr_any s _ (by repeat (first | with_reducible exact HS2.out | with_reducible refine Src.alloc ?_ _))).mono ?_
  rintro en w3 ⟨pv, xs, rfl, hown, xslen, hs, hg⟩
  have HS3 := Lib.hid hs
  have HG3 : Hid (Gs s w1 w3) := Gs.trans (by repeat (first | with_reducible exact HG2.out | with_reducible refine Gs.alloc ?_ _)) hg
  have hz3 : w1.heap.size ≤ w3.heap.size := HG3.out.size
  have lq3 : s < w3.heap.size := HS3.out.lt
  have HO3_0 := Lib.hid hown
  clear hs hg hown
  go_wp2_with fail
  refine (dDir_any s _ (by repeat (first | with_reducible exact HS3.out | with_reducible refine Src.alloc ?_ _))).mono ?_
  rintro en w4 ⟨c1, s1, h1, rfl, hs, hg⟩
  have HS4 := Lib.hid hs
  have HG4 : Hid (Gs s w1 w4) := Gs.trans (by repeat (first | with_reducible exact HG3.out | with_reducible refine Gs.alloc ?_ _)) hg
  have HO4_0 : Hid (OwnV w4 w2.heap.size (pv) (xs)) := OwnV.gs (by repeat (first | with_reducible exact HO3_0.out | with_reducible refine OwnV.alloc ?_ _)) hg lq2
  have hz4 : w1.heap.size ≤ w4.heap.size := HG4.out.size
  have lq4 : s < w4.heap.size := HS4.out.lt
  clear hs hg
  have HXF : Hid (BoxW w4 w.heap.size 0 0 0) := HX1.out.gs (by repeat (first | with_reducible exact HG4.out | with_reducible refine Gs.alloc ?_ _)) (by omega)
  have HOF := Lib.hid ((by repeat (first | with_reducible exact HO4_0.out | with_reducible refine OwnV.alloc ?_ _)))
  have HGF := Lib.hid (show Gs s w1 w4 from (by repeat (first | with_reducible exact HG4.out | with_reducible refine Gs.alloc ?_ _)))
  obtain ⟨A9, p9, c9, e9, hp9, hpc9, hr9, _⟩ := HOF.out.sl
  subst e9
  have hle : p9 ≤ 8 := by omega
  have HRF : Hid (RdS w.heap.size w4 A9 xs) := OwnV.rds HOF.out (by have := hz2; omega)
  have HGW : Hid (Gs w.heap.size w4 (((w4.setCell ⟨w.heap.size, 0, none⟩ (.int .i64 c1)).setCell ⟨w.heap.size, 1, none⟩ (.int .i64 s1)).setCell ⟨w.heap.size, 2, none⟩ (.int .i64 h1))) := ((Gs.set (Gs.set (Gs.set (Gs.refl _ _)))))
  have HBF : Hid (Below w.heap.size w (((w4.setCell ⟨w.heap.size, 0, none⟩ (.int .i64 c1)).setCell ⟨w.heap.size, 1, none⟩ (.int .i64 s1)).setCell ⟨w.heap.size, 2, none⟩ (.int .i64 h1))) := Below.setCell (Below.setCell (Below.setCell (HB1.out.trans (Gs.to_below (s := s) HGF.out (by omega) (by omega))) (Nat.le_refl _) _) (Nat.le_refl _) _) (Nat.le_refl _) _
  have b0 := HXF.out.1.1
  have b1 := HXF.out.1.2.1
  have b2 := HXF.out.1.2.2
  have f0 := HXF.out.2.1
  have f1 := HXF.out.2.2.1
  have f2 := HXF.out.2.2.2
  clear hr9
  go_wp2
  refine bodyPost_ret (v := .tuple #[.slice A9 p9 c9, .agg #[.int .i64 c1, .int .i64 s1, .int .i64 h1], .int .i64 r, .int .i64 v]) (by simp [results, Try.results45, go_sem, b0, b1, b2, f0, f1, f2]) rfl ⟨A9, p9, c9, xs, c1, s1, h1, r, v, rfl, hp9, hpc9, hle, (HRF.out.gs HGW.out).rd, HBF.out⟩
end Go.Proofs.Ytfmhbphbgdijpaa
