/- walks: what the laws draw (rules, patterns) -/
import Derived.Test.YtoaldcibmcmfdaaDrW3
import Derived.Test.YtoaldcibmcmfdaaOwn
set_option linter.unusedVariables false
set_option linter.unusedSimpArgs false
namespace Go.Proofs.Ytoaldcibmcmfdaa
open Go.RowKit
set_option maxHeartbeats 8000000 in
theorem dRule_any (s : Nat) (w : World) (h : Src w s) : Calls Try.prog 65 #[.pointer (some ⟨s, 0, none⟩)] w (TwoN s w) := by
  go_enter Try.func65, Try.ntmps65
  have ls0 : s < w.heap.size := h.lt
  go_wp2_with fail
  refine (next_any s _ _ (by repeat (first | with_reducible exact h | with_reducible refine Src.alloc ?_ _ | with_reducible refine Src.set ?_ (by omega) (by omega) | with_reducible refine Src.drewN ?_ _ | with_reducible refine Src.drew ?_))).mono ?_
  rintro en w1 ⟨x1, rfl, a1, b1, hS1, hg1⟩
  have hT1 : Gs s w w1 := Gs.trans (by repeat (first | with_reducible exact Gs.refl _ _ | with_reducible exact Gs.refl _ _ | with_reducible refine Gs.alloc ?_ _ | with_reducible refine Gs.set_new ?_ (by omega) | with_reducible refine Gs.drewN ?_ _ | with_reducible refine Gs.drew ?_)) hg1
  have hZ1 := hT1.size
  have ls1 := hS1.lt
  clear a1 b1
  go_wp2_with fail
  refine (next_any s _ _ (by repeat (first | with_reducible exact hS1 | with_reducible refine Src.alloc ?_ _ | with_reducible refine Src.set ?_ (by omega) (by omega) | with_reducible refine Src.drewN ?_ _ | with_reducible refine Src.drew ?_))).mono ?_
  rintro en w2 ⟨x2, rfl, a1, b1, hS2, hg2⟩
  have hT2 : Gs s w w2 := Gs.trans (by repeat (first | with_reducible exact hT1 | with_reducible exact Gs.refl _ _ | with_reducible refine Gs.alloc ?_ _ | with_reducible refine Gs.set_new ?_ (by omega) | with_reducible refine Gs.drewN ?_ _ | with_reducible refine Gs.drew ?_)) hg2
  have hZ2 := hT2.size
  have ls2 := hS2.lt
  clear a1 b1
  by_cases e0 : x2 = 0
  · have e1 : (x2 == 0) = true := by simpa using e0
    clear e0
    go_wp2_with fail
    refine (pick_any s _ 3 3 [0, 1, 13] _ (by repeat (first | with_reducible exact hS2 | with_reducible refine Src.alloc ?_ _ | with_reducible refine Src.set ?_ (by omega) (by omega) | with_reducible refine Src.drewN ?_ _ | with_reducible refine Src.drew ?_)) rfl (by decide) (by decide) (Rd.new2 _ _ [0, 1, 13] (by first | (simp only [World.size_alloc]; done) | (go_size; done))) (fun b off e => by cases e; omega)).mono ?_
    rintro en w3 ⟨y1, rfl, hy, hS3, hg3⟩
    have hT3 : Gs s w w3 := Gs.trans (by repeat (first | with_reducible exact hT2 | with_reducible exact Gs.refl _ _ | with_reducible refine Gs.alloc ?_ _ | with_reducible refine Gs.set_new ?_ (by omega) | with_reducible refine Gs.drewN ?_ _ | with_reducible refine Gs.drew ?_)) hg3
    have hZ3 := hT3.size
    have ls3 := hS3.lt
    clear hy
    go_wp2_with fail
    refine (pick_any s _ 4 4 [0, 1, 12, 13] _ (by repeat (first | with_reducible exact hS3 | with_reducible refine Src.alloc ?_ _ | with_reducible refine Src.set ?_ (by omega) (by omega) | with_reducible refine Src.drewN ?_ _ | with_reducible refine Src.drew ?_)) rfl (by decide) (by decide) (Rd.new2 _ _ [0, 1, 12, 13] (by first | (simp only [World.size_alloc]; done) | (go_size; done))) (fun b off e => by cases e; omega)).mono ?_
    rintro en w4 ⟨y2, rfl, hy, hS4, hg4⟩
    have hT4 : Gs s w w4 := Gs.trans (by repeat (first | with_reducible exact hT3 | with_reducible exact Gs.refl _ _ | with_reducible refine Gs.alloc ?_ _ | with_reducible refine Gs.set_new ?_ (by omega) | with_reducible refine Gs.drewN ?_ _ | with_reducible refine Gs.drew ?_)) hg4
    have hZ4 := hT4.size
    have ls4 := hS4.lt
    clear hy
    go_wp2_with (go_ret2; exact ⟨_, _, rfl, (by repeat (first | with_reducible exact hS4 | with_reducible refine Src.alloc ?_ _ | with_reducible refine Src.set ?_ (by omega) (by omega) | with_reducible refine Src.drewN ?_ _ | with_reducible refine Src.drew ?_)), (by repeat (first | with_reducible exact hT4 | with_reducible exact Gs.refl _ _ | with_reducible refine Gs.alloc ?_ _ | with_reducible refine Gs.set_new ?_ (by omega) | with_reducible refine Gs.drewN ?_ _ | with_reducible refine Gs.drew ?_))⟩)
  · have e1 : (x2 == 0) = false := by simpa using e0
    clear e0
    go_wp2_with fail
    refine (next_any s _ _ (by repeat (first | with_reducible exact hS2 | with_reducible refine Src.alloc ?_ _ | with_reducible refine Src.set ?_ (by omega) (by omega) | with_reducible refine Src.drewN ?_ _ | with_reducible refine Src.drew ?_))).mono ?_
    rintro en w3 ⟨y1, rfl, a1, b1, hS3, hg3⟩
    have hT3 : Gs s w w3 := Gs.trans (by repeat (first | with_reducible exact hT2 | with_reducible exact Gs.refl _ _ | with_reducible refine Gs.alloc ?_ _ | with_reducible refine Gs.set_new ?_ (by omega) | with_reducible refine Gs.drewN ?_ _ | with_reducible refine Gs.drew ?_)) hg3
    have hZ3 := hT3.size
    have ls3 := hS3.lt
    clear a1 b1
    go_wp2_with (go_ret2; exact ⟨_, _, rfl, (by repeat (first | with_reducible exact hS3 | with_reducible refine Src.alloc ?_ _ | with_reducible refine Src.set ?_ (by omega) (by omega) | with_reducible refine Src.drewN ?_ _ | with_reducible refine Src.drew ?_)), (by repeat (first | with_reducible exact hT3 | with_reducible exact Gs.refl _ _ | with_reducible refine Gs.alloc ?_ _ | with_reducible refine Gs.set_new ?_ (by omega) | with_reducible refine Gs.drewN ?_ _ | with_reducible refine Gs.drew ?_))⟩)
def CountDraw (w : World) (en : Ending) (w9 : World) : Prop := ∃ x y z u : Int, en = .returned (.tuple #[.int .i64 x, .int .i64 y, .int .i64 z, .int .i64 u]) ∧ Below w.heap.size w w9
set_option maxHeartbeats 8000000 in
theorem dCount_any (A : Option Addr) (n c : Nat) (w : World) (hr : RdB w A n) (hm : n ≤ 4096) : Calls Try.prog 37 #[.slice A n c] w (CountDraw w) := by
  go_enter Try.func37, Try.ntmps37
  go_wp2_with fail
  refine (from_any A n c _ (RdB.below hr (by repeat (first | with_reducible exact Below.refl _ _ | with_reducible exact Below.refl _ _ | with_reducible refine Below.alloc ?_ (by (try simp only [World.size_alloc, World.size_drew, size_drewN, World.size_setCell]); omega) _ | with_reducible refine Below.setCell ?_ (by (try dsimp only); omega) _ | with_reducible refine below_drewN ?_ _ | with_reducible refine Below.drew ?_))) hm).mono ?_
  rintro en w1 ⟨s, rfl, hs1, hS1, hb1⟩
  (try simp only [World.size_alloc, World.size_drew, size_drewN, World.size_setCell] at hs1)
  have hT1 : Below w.heap.size w w1 := Below.trans (by repeat (first | with_reducible exact Below.refl _ _ | with_reducible exact Below.refl _ _ | with_reducible refine Below.alloc ?_ (by (try simp only [World.size_alloc, World.size_drew, size_drewN, World.size_setCell]); omega) _ | with_reducible refine Below.setCell ?_ (by (try dsimp only); omega) _ | with_reducible refine below_drewN ?_ _ | with_reducible refine Below.drew ?_)) (hb1.mono (by (try simp only [World.size_alloc, World.size_drew, size_drewN, World.size_setCell]); omega))
  have hZ1 := hT1.size
  have ls1 := hS1.lt
  go_wp2_with fail
  refine (d13_any s _ (by repeat (first | with_reducible exact hS1 | with_reducible refine Src.alloc ?_ _ | with_reducible refine Src.set ?_ (by omega) (by omega) | with_reducible refine Src.drewN ?_ _ | with_reducible refine Src.drew ?_))).mono ?_
  rintro en w2 ⟨x1, x2, rfl, hS2, hg2⟩
  have hT2 : Below w.heap.size w w2 := Below.trans (by repeat (first | with_reducible exact hT1 | with_reducible exact Below.refl _ _ | with_reducible refine Below.alloc ?_ (by (try simp only [World.size_alloc, World.size_drew, size_drewN, World.size_setCell]); omega) _ | with_reducible refine Below.setCell ?_ (by (try dsimp only); omega) _ | with_reducible refine below_drewN ?_ _ | with_reducible refine Below.drew ?_)) (hg2.to_below (by omega) (by (try simp only [World.size_alloc, World.size_drew, size_drewN, World.size_setCell]); omega))
  have hZ2 := hT2.size
  have ls2 := hS2.lt
  go_wp2_with fail
  refine (dRule_any s _ (by repeat (first | with_reducible exact hS2 | with_reducible refine Src.alloc ?_ _ | with_reducible refine Src.set ?_ (by omega) (by omega) | with_reducible refine Src.drewN ?_ _ | with_reducible refine Src.drew ?_))).mono ?_
  rintro en w3 ⟨y1, y2, rfl, hS3, hg3⟩
  have hT3 : Below w.heap.size w w3 := Below.trans (by repeat (first | with_reducible exact hT2 | with_reducible exact Below.refl _ _ | with_reducible refine Below.alloc ?_ (by (try simp only [World.size_alloc, World.size_drew, size_drewN, World.size_setCell]); omega) _ | with_reducible refine Below.setCell ?_ (by (try dsimp only); omega) _ | with_reducible refine below_drewN ?_ _ | with_reducible refine Below.drew ?_)) (hg3.to_below (by omega) (by (try simp only [World.size_alloc, World.size_drew, size_drewN, World.size_setCell]); omega))
  have hZ3 := hT3.size
  have ls3 := hS3.lt
  go_wp2
  refine bodyPost_ret (v := .tuple #[.int .i64 x1, .int .i64 x2, .int .i64 y1, .int .i64 y2]) (by simp [results, Try.results37, go_sem]) rfl ⟨x1, x2, y1, y2, rfl, (by repeat (first | with_reducible exact hT3 | with_reducible exact Below.refl _ _ | with_reducible refine Below.alloc ?_ (by (try simp only [World.size_alloc, World.size_drew, size_drewN, World.size_setCell]); omega) _ | with_reducible refine Below.setCell ?_ (by (try dsimp only); omega) _ | with_reducible refine below_drewN ?_ _ | with_reducible refine Below.drew ?_))⟩

theorem cellB {B : Nat} {w w2 : World} {a : Addr} {v : Value} (hb : Below B w w2) (h : w.cell? a = some v) (hlt : a.block < B) : w2.cell? a = some v := (hb.cell hlt).trans h
theorem frozenB {B : Nat} {w w2 : World} {a : Addr} (hb : Below B w w2) (h : w.frozen? a = false) (hlt : a.block < B) : w2.frozen? a = false := (hb.frozen hlt).trans h
theorem Gs.then {s : Nat} {w w1 w2 : World} (h : Gs s w w1) (hb : Below w.heap.size w1 w2) : Gs s w w2 :=
  ⟨hb.os.trans h.os, hb.tape.trans h.tape, hb.output.trans h.output, Nat.le_trans h.size hb.size, fun k hk hne => (hb.block k hk).trans (h.block k hk hne)⟩
theorem Src.low {w w2 : World} {s B : Nat} (h : Src w s) (hb : Below B w w2) (hs : s < B) : Src w2 s := by
  obtain ⟨A, n, c, p, d, ⟨c0, c1, c2, z1, z2⟩, r1, r2, r3, r4, r5, r6⟩ := h
  refine ⟨A, n, c, p, d, ⟨cellB hb c0 hs, cellB hb c1 hs, cellB hb c2 hs, frozenB hb z1 hs, frozenB hb z2 hs⟩, r1, r2, r3, r4, ?_, r6⟩
  rcases Nat.eq_zero_or_pos n with h0 | h0
  · exact .inl h0
  rcases r5 with h | ⟨b, off, e, h⟩
  · exact .inl h
  · exact .inr ⟨b, off, e, fun k hk => by
      obtain ⟨x, hx, h2⟩ := h k hk
      exact ⟨x, cellB hb hx (Nat.lt_trans (r6 h0 b off e) hs), h2⟩⟩
theorem OwnV.gs {w w2 : World} {B s : Nat} {v : Value} {ys : List Int} (h : OwnV w B v ys) (hg : Gs s w w2) (hs : s < B) : OwnV w2 B v ys := by
  refine ⟨h.1, ?_⟩
  rcases h.2 with hn | ⟨g, cap, cur, rfl, hB, hg2, rest⟩
  · exact .inl hn
  · exact .inr ⟨g, cap, cur, rfl, hB, (hg.block g (Array.getElem?_eq_some_iff.1 hg2).1 (fun e => by injection e with e; omega)).trans hg2, rest⟩
def BitsPost (s : Nat) (w : World) (en : Ending) (w9 : World) : Prop := ∃ (v : Value) (xs : List Int), en = .returned v ∧ OwnV w9 w.heap.size v xs ∧ xs.length ≤ 12 ∧ w.heap.size + 1 ≤ w9.heap.size ∧ Src w9 s ∧ Gs s w w9
set_option maxHeartbeats 4000000 in
theorem dBits_any (s : Nat) (w : World) (h : Src w s) : Calls Try.prog 66 #[.pointer (some ⟨s, 0, none⟩), .int .i64 12] w (BitsPost s w) := by
  have ls := h.lt
  have HO := Lib.hid (OwnV.empty w w.heap.size (Nat.le_refl _))
  go_enter Try.func66, Try.ntmps66
  go_wp2_with fail
  refine (next_any s _ _ (Src.alloc h _)).mono ?_
  rintro en w1 ⟨x, rfl, x0, hx, hs1, hg1⟩
  have HO1 := Lib.hid (OwnV.gs HO.out hg1 ls)
  have HG := Lib.hid (Gs.trans (Gs.alloc (Gs.refl s w) (.cells #[] 2)) hg1)
  have hz1 : w.heap.size + 1 ≤ w1.heap.size := by have := hg1.size; simpa using this
  have HS := Lib.hid hs1
  have hx12 : x ≤ 12 := by omega
  clear hg1 hs1 hx
  go_wp2
  go_loopw [5, 6] (fun v i wr => ∃ (j : Nat) (xs : List Int), i = .int .i64 (j : Int) ∧ xs.length + j ≤ 12 ∧ Hid (OwnV wr w.heap.size v xs) ∧ w.heap.size + 1 ≤ wr.heap.size ∧ Hid (Src wr s) ∧ Hid (Gs s w wr)) (fun _ i _ => (intOf i).toNat)
  case atStart => exact ⟨x.toNat, [], by congr 1; omega, by simp; omega, HO1, hz1, HS, HG⟩
  case round =>
    obtain ⟨j, xs, rfl, hl, HV, hz, HR, HH⟩ := hrel
    cases j with
    | zero =>
      go_wp2
      go_ret
      exact ⟨_, xs, rfl, HV.out, by omega, hz, HR.out, HH.out⟩
    | succ j =>
      have hj : (0 : Int) < ((j + 1 : Nat) : Int) := by omega
      go_wp2_with fail
      refine (next_any s _ _ HR.out).mono ?_
      rintro en w2 ⟨y, rfl, y0, hy, hs2, hg2⟩
      have HV2 := Lib.hid (OwnV.gs HV.out hg2 ls)
      have HH2 := Lib.hid (Gs.trans HH.out hg2)
      have hz2 : w.heap.size + 1 ≤ w2.heap.size := Nat.le_trans hz hg2.size
      have HS2 := Lib.hid hs2
      clear hg2 hs2 hy
      go_wp2_with (at_builtin; refine app_int rfl _ _ rfl w.heap.size _ xs rfl (OwnV.alloc HV2.out _) y _ rfl (cell_new1 _ _) (by omega) (by simp; omega) ?_; intro g cap w3 hown3 hb3)
      have HV3 : Hid (OwnV w3 w.heap.size (.slice (some ⟨g, 0, none⟩) (xs.length + 1) cap) (xs ++ [y])) := hown3
      have hzz : w.heap.size + 1 ≤ w3.heap.size := by have := hb3.size; simp at this; omega
      have HS3 := Lib.hid (Src.low (Src.alloc HS2.out _) hb3 ls)
      have HH3 := Lib.hid (Gs.then (Gs.alloc HH2.out _) hb3)
      clear hown3 hb3
      go_wp2
      go_roundw
      case rel => exact ⟨j, xs ++ [y], rfl, by simp; omega, HV3, hzz, HS3, HH3⟩
      case measure => simp [intOf]
end Go.Proofs.Ytoaldcibmcmfdaa
