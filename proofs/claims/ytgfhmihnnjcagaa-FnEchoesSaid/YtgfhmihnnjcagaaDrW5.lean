/- walks: echoes drawn -/
import Derived.Test.YtgfhmihnnjcagaaDrW4
import Derived.Test.YtgfhmihnnjcagaaTwo
set_option linter.unusedVariables false
set_option linter.unusedSimpArgs false
namespace Go.Proofs.Ytgfhmihnnjcagaa
open Go.RowKit

/-- two slices of one's own, in two blocks -/
def Duo (w : World) (B : Nat) (v : Value) (ds : List Int) (u : Value) (gs : List Int) : Prop :=
  OwnV w B v ds ∧ OwnV w B u gs ∧ (∀ q, v.ownBlock = some q → u.ownBlock = some q → False)
theorem Duo.alloc {w : World} {B : Nat} {ds gs : List Int} {v u : Value} (h : Duo w B v ds u gs) (o : Obj) : Duo (w.alloc o) B v ds u gs := ⟨h.1.alloc o, h.2.1.alloc o, h.2.2⟩
theorem Duo.swap {w : World} {B : Nat} {ds gs : List Int} {v u : Value} (h : Duo w B v ds u gs) : Duo w B u gs v ds := ⟨h.2.1, h.1, fun q h1 h2 => h.2.2 q h2 h1⟩
theorem Duo.gs {s : Nat} {w w2 : World} {B : Nat} {ds gs : List Int} {v u : Value} (h : Duo w B v ds u gs) (hg : Gs s w w2) (hs : s < B) : Duo w2 B v ds u gs := ⟨h.1.gs hg hs, h.2.1.gs hg hs, h.2.2⟩
theorem Duo.app {w w2 : World} {B g cap : Nat} {ds gs : List Int} {v u : Value} {z : Int} (h : Duo w B v ds u gs) (o : Obj)
    (hown : OwnV w2 B (.slice (some ⟨g, 0, none⟩) (ds.length + 1) cap) (ds ++ [z])) (hg : (w.alloc o).grownBy w2 v.ownBlock) (hat : v.ownBlock = some g ∨ g = (w.alloc o).heap.size) :
    Duo w2 B (.slice (some ⟨g, 0, none⟩) (ds.length + 1) cap) (ds ++ [z]) u gs := by
  obtain ⟨hv, hu, n3⟩ := h.alloc o
  refine ⟨hown, hu.stay hg (fun k h1 h2 => n3 k h2 h1), ?_⟩
  intro q hq hu2
  have e : g = q := by injection hq
  rcases hat with h2 | h2
  · exact n3 q (by rw [h2, e]) hu2
  · have := (World.ownsRow.lt hu q hu2).2
    omega
theorem Duo.bel {w w2 : World} {B : Nat} {ds gs : List Int} {v u : Value} (h : Duo w B v ds u gs) (o : Obj) (hB : B ≤ w.heap.size) (hg : (w.alloc o).grownBy w2 v.ownBlock) : Below B w w2 :=
  ((Below.refl B w).alloc hB o).grown hg (by simp only [World.size_alloc]; omega) (fun k hk => (World.ownsRow.lt h.1 k hk).1)
theorem Duo.new (w : World) : Duo ((w.alloc (.cells #[] 2)).alloc (.cells #[] 2)) w.heap.size (.slice (some ⟨w.heap.size, 0, none⟩) 0 0) [] (.slice (some ⟨w.heap.size + 1, 0, none⟩) 0 0) [] := by
  refine ⟨(OwnV.empty w w.heap.size (Nat.le_refl _)).alloc _, ?_, ?_⟩
  · have h := OwnV.empty (w.alloc (.cells #[] 2)) w.heap.size (by simp only [World.size_alloc]; omega)
    simp only [World.size_alloc] at h
    exact h
  · intro q h1 h2
    have e1 : w.heap.size = q := by injection h1
    have e2 : w.heap.size + 1 = q := by injection h2
    omega
theorem res_four {fn : Func} {t u v x : Tmp} (h : fn.results = #[.tmp t, .tmp u, .tmp v, .tmp x]) (tmps : Array Value) (P : Program) (w : World) :
    (results fn tmps).run P w = .ok (.tuple #[tmps.getD t undef, tmps.getD u undef, tmps.getD v undef, tmps.getD x undef]) w := by
  simp [results, h]
def EchDraw (w : World) (en : Ending) (w9 : World) : Prop := ∃ (pv dv gv : Value) (ps ds gs : List Int) (L : Int), en = .returned (.tuple #[pv, dv, gv, .int .i64 L]) ∧ OwnV w9 w.heap.size pv ps ∧ OwnV w9 w.heap.size dv ds ∧ OwnV w9 w.heap.size gv gs ∧ ps.length ≤ 500 ∧ ds.length ≤ 100 ∧ gs.length ≤ 100 ∧ Below w.heap.size w w9

set_option maxRecDepth 100000 in
set_option maxHeartbeats 8000000 in
theorem dEch_any (A : Option Addr) (n c : Nat) (w : World) (hr : RdB w A n) (hm : n ≤ 4096) : Calls Try.prog 67 #[.slice A n c] w (EchDraw w) := by
  go_enter Try.func67, Try.ntmps67
  go_wp2_with fail
  refine (from_any A n c _ hr hm).mono ?_
  rintro en w1 ⟨s, rfl, hs1, hS1, hb1⟩
  have ls0 := hS1.lt
  have HB1 := Lib.hid hb1
  have hz1 := hb1.size
  clear hr hb1
  go_wp2_with fail
  refine (dBits_any s 8 _ (by repeat (first | with_reducible exact hS1 | with_reducible refine Src.alloc ?_ _)) (by omega)).mono ?_
  rintro en w2 ⟨pv, ps, rfl, hown, hpl8, hs2, hg2⟩
  have lq2 : s < w2.heap.size := hs2.lt
  go_wp2_with fail
  refine (next_any s _ _ (by repeat (first | with_reducible exact hs2 | with_reducible refine Src.alloc ?_ _))).mono ?_
  rintro en w3 ⟨k, rfl, k0, kb, hs3, hg3⟩
  have hown3 := OwnV.gs hown hg3 ls0
  have hg13 := Gs.trans hg2 hg3
  clear hown hs2 hg2 hg3
  have hpl : ps.length ≤ 500 := by omega
  clear hpl8
  have hz13 := hg13.size
  by_cases e0 : k = 0
  rotate_left
  · have f0 : (k == 0) = false := by simpa using e0
    clear e0
    have HSp := Lib.hid hs3
    have HGp := Lib.hid hg13
    have HOp := Lib.hid hown3
    clear hs3 hg13 hown3
    go_wp2_with fail
    refine (next_any s _ _ (by repeat (first | with_reducible exact HSp.out | with_reducible refine Src.alloc ?_ _))).mono ?_
    rintro en w5 ⟨L, rfl, L0, Lb, hs, hg⟩
    have HS5 := Lib.hid hs
    have HG5 : Hid (Gs s w1 w5) := Gs.trans HGp.out hg
    have HO5 : Hid (OwnV w5 w1.heap.size pv ps) := OwnV.gs HOp.out hg ls0
    have ls5 : s < w5.heap.size := HS5.out.lt
    have hz5 : w5.heap.size ≤ w5.heap.size := Nat.le_refl _
    have hz15 : w.heap.size ≤ w5.heap.size := Nat.le_trans hz1 HG5.out.size
    clear hs hg HSp HGp HOp
    obtain ⟨Ap, pn, pc, hpv, _, _, _, _⟩ := HO5.out.sl
    subst hpv
    have HD0 := Lib.hid (Duo.new w5)
    have HG0 := Lib.hid (Gs.refl s w5)
    go_wp2_with fail
    refine (next_any s _ _ (by repeat (first | with_reducible exact HS5.out | with_reducible refine Src.alloc ?_ _))).mono ?_
    rintro en w6 ⟨x, rfl, x0, xb, hs, hg⟩
    have HS6 := Lib.hid hs
    have HG6 : Hid (Gs s w5 w6) := Gs.trans (by repeat (first | with_reducible exact HG0.out | with_reducible refine Gs.alloc ?_ _)) hg
    have HD6 : Hid (Duo w6 w5.heap.size (.slice (some ⟨w5.heap.size, 0, none⟩) 0 0) ([]) (.slice (some ⟨w5.heap.size + 1, 0, none⟩) 0 0) ([])) := Duo.gs (by repeat (first | with_reducible exact HD0.out | with_reducible refine Duo.alloc ?_ _)) hg ls5
    have hz6 : w5.heap.size ≤ w6.heap.size := HG6.out.size
    have lq6 : s < w6.heap.size := HS6.out.lt
    clear hs hg
    have hxm : x ≤ 4 := by omega
    go_wp2
    go_loopw [9, 10, 11] (fun v u i wr => ∃ (j : Nat) (ds gs : List Int), i = .int .i64 (j : Int) ∧ ds.length + j ≤ 4 ∧ gs.length + j ≤ 4 ∧ Hid (Duo wr w5.heap.size v ds u gs) ∧ w5.heap.size ≤ wr.heap.size ∧ Hid (Src wr s) ∧ Hid (Gs s w5 wr)) (fun _ _ i _ => (intOf i).toNat)
    case atStart => exact ⟨x.toNat, [], [], by congr 1; omega, by simp; omega, by simp; omega, HD6, hz6, HS6, HG6⟩
    case round =>
      obtain ⟨j, ds, gs, rfl, hl, hl2, HV, hz, HR, HH⟩ := hrel
      have hlq := HR.out.lt
      cases j with
      | zero =>
        go_wp2_with fail
        refine (next_any s _ _ (by repeat (first | with_reducible exact HR.out | with_reducible refine Src.alloc ?_ _))).mono ?_
        rintro en w21 ⟨z, rfl, z0, zb, hs, hg⟩
        have HS21 := Lib.hid hs
        have HG21 : Hid (Gs s w5 w21) := Gs.trans (by repeat (first | with_reducible exact HH.out | with_reducible refine Gs.alloc ?_ _)) hg
        have HD21 : Hid (Duo w21 w5.heap.size (u9) (ds) (u10) (gs)) := Duo.gs (by repeat (first | with_reducible exact HV.out | with_reducible refine Duo.alloc ?_ _)) hg ls5
        have hz21 : w5.heap.size ≤ w21.heap.size := HG21.out.size
        have lq21 : s < w21.heap.size := HS21.out.lt
        clear hs hg
        by_cases e0 : z = 0
        · have f0 : (z == 0) = true := by simpa using e0
          clear e0
          go_wp2_with fail
          refine (pick_any s _ 3 3 [(-1), 400, 401] _ (by repeat (first | with_reducible exact HS21.out | with_reducible refine Src.alloc ?_ _)) rfl (by decide) (by decide) (Rd.new2 _ _ [(-1), 400, 401] (by first | (simp only [World.size_alloc]; done) | (go_size; done))) (fun b off e => by cases e; omega)).mono ?_
          rintro en w22 ⟨L2, rfl, L2m, hs, hg⟩
          have HS22 := Lib.hid hs
          have HG22 : Hid (Gs s w5 w22) := Gs.trans (by repeat (first | with_reducible exact HG21.out | with_reducible refine Gs.alloc ?_ _)) hg
          have HD22 : Hid (Duo w22 w5.heap.size (u9) (ds) (u10) (gs)) := Duo.gs (by repeat (first | with_reducible exact HD21.out | with_reducible refine Duo.alloc ?_ _)) hg ls5
          have hz22 : w5.heap.size ≤ w22.heap.size := HG22.out.size
          have lq22 : s < w22.heap.size := HS22.out.lt
          clear hs hg
          go_wp2
          (try simp only [Exit.inBlock, Exit.then])
          refine bodyPost_ret (res_four rfl _ _ _) rfl ?_
          exact ⟨_, _, _, ps, ds, gs, L2, rfl, OwnV.low (OwnV.gs HO5.out HG22.out ls0) hz1, OwnV.low HD22.out.1 hz15, OwnV.low HD22.out.2.1 hz15, hpl, (by (try simp only [List.length_append, List.length_singleton]); omega), (by (try simp only [List.length_append, List.length_singleton]); omega), HB1.out.trans (Gs.to_below (s := s) (Gs.trans HG5.out HG22.out) hs1 hz1)⟩
        · have f0 : (z == 0) = false := by simpa using e0
          clear e0
          by_cases e1 : z = 1
          · have f1 : (z == 1) = true := by simpa using e1
            clear e1
            go_wp2_with (at_builtin; refine app_lies rfl _ _ rfl w5.heap.size (u10) (gs) rfl (OwnV.alloc (Duo.swap HD21.out).1 _) (1) _ rfl (cell_new1 _ _) (by (try simp only [List.length_append, List.length_singleton]); omega) (by simp only [World.size_alloc]; omega) ?_; intro g22 cap22 w22 hown hg hat)
            have hb := Duo.bel (Duo.swap HD21.out) _ hz21 hg
            have HD22 : Hid (Duo w22 w5.heap.size (u9) (ds) (.slice (some ⟨g22, 0, none⟩) ((gs).length + 1) cap22) (gs ++ [1])) := Duo.swap (Duo.app (Duo.swap HD21.out) _ hown hg hat)
            have HS22 := Lib.hid (Src.low HS21.out hb ls5)
            have HG22 : Hid (Gs s w5 w22) := Gs.then HG21.out hb
            have hz22 : w5.heap.size ≤ w22.heap.size := HG22.out.size
            have lq22 : s < w22.heap.size := HS22.out.lt
            clear hown hg hat hb
            go_wp2
            (try simp only [Exit.inBlock, Exit.then])
            refine bodyPost_ret (res_four rfl _ _ _) rfl ?_
            exact ⟨_, _, _, ps, ds, gs ++ [1], L, rfl, OwnV.low (OwnV.gs HO5.out HG22.out ls0) hz1, OwnV.low HD22.out.1 hz15, OwnV.low HD22.out.2.1 hz15, hpl, (by (try simp only [List.length_append, List.length_singleton]); omega), (by (try simp only [List.length_append, List.length_singleton]); omega), HB1.out.trans (Gs.to_below (s := s) (Gs.trans HG5.out HG22.out) hs1 hz1)⟩
          · have f1 : (z == 1) = false := by simpa using e1
            clear e1
            by_cases e2 : z = 2
            · have f2 : (z == 2) = true := by simpa using e2
              clear e2
              go_wp2_with fail
              refine (pick_any s _ 2 2 [(-1), L] _ (by repeat (first | with_reducible exact HS21.out | with_reducible refine Src.alloc ?_ _)) rfl (by decide) (by decide) (Rd.new2 _ _ [(-1), L] (by first | (simp only [World.size_alloc]; done) | (go_size; done))) (fun b off e => by cases e; omega)).mono ?_
              rintro en w22 ⟨y, rfl, ym, hs, hg⟩
              have HS22 := Lib.hid hs
              have HG22 : Hid (Gs s w5 w22) := Gs.trans (by repeat (first | with_reducible exact HG21.out | with_reducible refine Gs.alloc ?_ _)) hg
              have HD22 : Hid (Duo w22 w5.heap.size (u9) (ds) (u10) (gs)) := Duo.gs (by repeat (first | with_reducible exact HD21.out | with_reducible refine Duo.alloc ?_ _)) hg ls5
              have hz22 : w5.heap.size ≤ w22.heap.size := HG22.out.size
              have lq22 : s < w22.heap.size := HS22.out.lt
              clear hs hg
              go_wp2_with (at_builtin; refine app_lies rfl _ _ rfl w5.heap.size (u9) (ds) rfl (OwnV.alloc HD22.out.1 _) (y) _ rfl (cell_new1 _ _) (by (try simp only [List.length_append, List.length_singleton]); omega) (by simp only [World.size_alloc]; omega) ?_; intro g23 cap23 w23 hown hg hat)
              have hb := Duo.bel HD22.out _ hz22 hg
              have HD23 : Hid (Duo w23 w5.heap.size (.slice (some ⟨g23, 0, none⟩) ((ds).length + 1) cap23) (ds ++ [y]) (u10) (gs)) := Duo.app HD22.out _ hown hg hat
              have HS23 := Lib.hid (Src.low HS22.out hb ls5)
              have HG23 : Hid (Gs s w5 w23) := Gs.then HG22.out hb
              have hz23 : w5.heap.size ≤ w23.heap.size := HG23.out.size
              have lq23 : s < w23.heap.size := HS23.out.lt
              clear hown hg hat hb
              go_wp2_with fail
              refine (pick_any s _ 2 2 [1000, 1001] _ (by repeat (first | with_reducible exact HS23.out | with_reducible refine Src.alloc ?_ _)) rfl (by decide) (by decide) (Rd.new2 _ _ [1000, 1001] (by first | (simp only [World.size_alloc]; done) | (go_size; done))) (fun b off e => by cases e; omega)).mono ?_
              rintro en w24 ⟨q, rfl, qm, hs, hg⟩
              have HS24 := Lib.hid hs
              have HG24 : Hid (Gs s w5 w24) := Gs.trans (by repeat (first | with_reducible exact HG23.out | with_reducible refine Gs.alloc ?_ _)) hg
              have HD24 : Hid (Duo w24 w5.heap.size (.slice (some ⟨g23, 0, none⟩) ((ds).length + 1) cap23) (ds ++ [y]) (u10) (gs)) := Duo.gs (by repeat (first | with_reducible exact HD23.out | with_reducible refine Duo.alloc ?_ _)) hg ls5
              have hz24 : w5.heap.size ≤ w24.heap.size := HG24.out.size
              have lq24 : s < w24.heap.size := HS24.out.lt
              clear hs hg
              go_wp2_with (at_builtin; refine app_lies rfl _ _ rfl w5.heap.size (u10) (gs) rfl (OwnV.alloc (Duo.swap HD24.out).1 _) (q) _ rfl (cell_new1 _ _) (by (try simp only [List.length_append, List.length_singleton]); omega) (by simp only [World.size_alloc]; omega) ?_; intro g25 cap25 w25 hown hg hat)
              have hb := Duo.bel (Duo.swap HD24.out) _ hz24 hg
              have HD25 : Hid (Duo w25 w5.heap.size (.slice (some ⟨g23, 0, none⟩) ((ds).length + 1) cap23) (ds ++ [y]) (.slice (some ⟨g25, 0, none⟩) ((gs).length + 1) cap25) (gs ++ [q])) := Duo.swap (Duo.app (Duo.swap HD24.out) _ hown hg hat)
              have HS25 := Lib.hid (Src.low HS24.out hb ls5)
              have HG25 : Hid (Gs s w5 w25) := Gs.then HG24.out hb
              have hz25 : w5.heap.size ≤ w25.heap.size := HG25.out.size
              have lq25 : s < w25.heap.size := HS25.out.lt
              clear hown hg hat hb
              go_wp2
              (try simp only [Exit.inBlock, Exit.then])
              refine bodyPost_ret (res_four rfl _ _ _) rfl ?_
              exact ⟨_, _, _, ps, ds ++ [y], gs ++ [q], L, rfl, OwnV.low (OwnV.gs HO5.out HG25.out ls0) hz1, OwnV.low HD25.out.1 hz15, OwnV.low HD25.out.2.1 hz15, hpl, (by (try simp only [List.length_append, List.length_singleton]); omega), (by (try simp only [List.length_append, List.length_singleton]); omega), HB1.out.trans (Gs.to_below (s := s) (Gs.trans HG5.out HG25.out) hs1 hz1)⟩
            · have f2 : (z == 2) = false := by simpa using e2
              clear e2
              go_wp2
              (try simp only [Exit.inBlock, Exit.then])
              refine bodyPost_ret (res_four rfl _ _ _) rfl ?_
              exact ⟨_, _, _, ps, ds, gs, L, rfl, OwnV.low (OwnV.gs HO5.out HG21.out ls0) hz1, OwnV.low HD21.out.1 hz15, OwnV.low HD21.out.2.1 hz15, hpl, (by (try simp only [List.length_append, List.length_singleton]); omega), (by (try simp only [List.length_append, List.length_singleton]); omega), HB1.out.trans (Gs.to_below (s := s) (Gs.trans HG5.out HG21.out) hs1 hz1)⟩
      | succ j =>
        have hj : (0 : Int) < ((j + 1 : Nat) : Int) := by omega
        go_wp2_with fail
        all_goals
          refine (next_any s _ _ (by repeat (first | with_reducible exact HR.out | with_reducible refine Src.alloc ?_ _))).mono ?_
          rintro en w11 ⟨y, rfl, y0, yb, hs, hg⟩
          have HS11 := Lib.hid hs
          have HG11 : Hid (Gs s w5 w11) := Gs.trans (by repeat (first | with_reducible exact HH.out | with_reducible refine Gs.alloc ?_ _)) hg
          have HD11 : Hid (Duo w11 w5.heap.size (u9) (ds) (u10) (gs)) := Duo.gs (by repeat (first | with_reducible exact HV.out | with_reducible refine Duo.alloc ?_ _)) hg ls5
          have hz11 : w5.heap.size ≤ w11.heap.size := HG11.out.size
          have lq11 : s < w11.heap.size := HS11.out.lt
          clear hs hg
          go_wp2_with (at_builtin; refine app_lies rfl _ _ rfl w5.heap.size (u9) (ds) rfl (OwnV.alloc HD11.out.1 _) (y) _ rfl (cell_new1 _ _) (by (try simp only [List.length_append, List.length_singleton]); omega) (by simp only [World.size_alloc]; omega) ?_; intro g12 cap12 w12 hown hg hat)
          have hb := Duo.bel HD11.out _ hz11 hg
          have HD12 : Hid (Duo w12 w5.heap.size (.slice (some ⟨g12, 0, none⟩) ((ds).length + 1) cap12) (ds ++ [y]) (u10) (gs)) := Duo.app HD11.out _ hown hg hat
          have HS12 := Lib.hid (Src.low HS11.out hb ls5)
          have HG12 : Hid (Gs s w5 w12) := Gs.then HG11.out hb
          have hz12 : w5.heap.size ≤ w12.heap.size := HG12.out.size
          have lq12 : s < w12.heap.size := HS12.out.lt
          clear hown hg hat hb
          go_wp2_with fail
          refine (next_any s _ _ (by repeat (first | with_reducible exact HS12.out | with_reducible refine Src.alloc ?_ _))).mono ?_
          rintro en w13 ⟨z, rfl, z0, zb, hs, hg⟩
          have HS13 := Lib.hid hs
          have HG13 : Hid (Gs s w5 w13) := Gs.trans (by repeat (first | with_reducible exact HG12.out | with_reducible refine Gs.alloc ?_ _)) hg
          have HD13 : Hid (Duo w13 w5.heap.size (.slice (some ⟨g12, 0, none⟩) ((ds).length + 1) cap12) (ds ++ [y]) (u10) (gs)) := Duo.gs (by repeat (first | with_reducible exact HD12.out | with_reducible refine Duo.alloc ?_ _)) hg ls5
          have hz13 : w5.heap.size ≤ w13.heap.size := HG13.out.size
          have lq13 : s < w13.heap.size := HS13.out.lt
          clear hs hg
          go_wp2_with (at_builtin; refine app_lies rfl _ _ rfl w5.heap.size (u10) (gs) rfl (OwnV.alloc (Duo.swap HD13.out).1 _) ((z - 20)) _ rfl (cell_new1 _ _) (by (try simp only [List.length_append, List.length_singleton]); omega) (by simp only [World.size_alloc]; omega) ?_; intro g14 cap14 w14 hown hg hat)
          have hb := Duo.bel (Duo.swap HD13.out) _ hz13 hg
          have HD14 : Hid (Duo w14 w5.heap.size (.slice (some ⟨g12, 0, none⟩) ((ds).length + 1) cap12) (ds ++ [y]) (.slice (some ⟨g14, 0, none⟩) ((gs).length + 1) cap14) (gs ++ [(z - 20)])) := Duo.swap (Duo.app (Duo.swap HD13.out) _ hown hg hat)
          have HS14 := Lib.hid (Src.low HS13.out hb ls5)
          have HG14 : Hid (Gs s w5 w14) := Gs.then HG13.out hb
          have hz14 : w5.heap.size ≤ w14.heap.size := HG14.out.size
          have lq14 : s < w14.heap.size := HS14.out.lt
          clear hown hg hat hb
          go_roundw
          case rel => exact ⟨j, ds ++ [y], gs ++ [z - 20], by go_num, by simp only [List.length_append, List.length_singleton]; omega, by simp only [List.length_append, List.length_singleton]; omega, HD14, hz14, HS14, HG14⟩
          case measure => simp [intOf]
  · have f0 : (k == 0) = true := by simpa using e0
    clear e0
    clear hown3 hpl
    go_wp2_with fail
    refine (d09_any s _ (by repeat (first | with_reducible exact hs3 | with_reducible refine Src.alloc ?_ _))).mono ?_
    clear ps
    rintro en w4 ⟨pv, ps, rfl, hown, hpl, hs4, hg4⟩
    have HSp := Lib.hid hs4
    have HGp : Hid (Gs s w1 w4) := Gs.trans hg13 hg4
    have HOp : Hid (OwnV w4 w1.heap.size pv ps) := OwnV.low hown hz13
    clear hs4 hs3 hg13 hg4 hown
    go_wp2_with fail
    refine (next_any s _ _ (by repeat (first | with_reducible exact HSp.out | with_reducible refine Src.alloc ?_ _))).mono ?_
    rintro en w5 ⟨L, rfl, L0, Lb, hs, hg⟩
    have HS5 := Lib.hid hs
    have HG5 : Hid (Gs s w1 w5) := Gs.trans HGp.out hg
    have HO5 : Hid (OwnV w5 w1.heap.size pv ps) := OwnV.gs HOp.out hg ls0
    have ls5 : s < w5.heap.size := HS5.out.lt
    have hz5 : w5.heap.size ≤ w5.heap.size := Nat.le_refl _
    have hz15 : w.heap.size ≤ w5.heap.size := Nat.le_trans hz1 HG5.out.size
    clear hs hg HSp HGp HOp
    obtain ⟨Ap, pn, pc, hpv, _, _, _, _⟩ := HO5.out.sl
    subst hpv
    have HD0 := Lib.hid (Duo.new w5)
    have HG0 := Lib.hid (Gs.refl s w5)
    go_wp2_with fail
    refine (next_any s _ _ (by repeat (first | with_reducible exact HS5.out | with_reducible refine Src.alloc ?_ _))).mono ?_
    rintro en w6 ⟨x, rfl, x0, xb, hs, hg⟩
    have HS6 := Lib.hid hs
    have HG6 : Hid (Gs s w5 w6) := Gs.trans (by repeat (first | with_reducible exact HG0.out | with_reducible refine Gs.alloc ?_ _)) hg
    have HD6 : Hid (Duo w6 w5.heap.size (.slice (some ⟨w5.heap.size, 0, none⟩) 0 0) ([]) (.slice (some ⟨w5.heap.size + 1, 0, none⟩) 0 0) ([])) := Duo.gs (by repeat (first | with_reducible exact HD0.out | with_reducible refine Duo.alloc ?_ _)) hg ls5
    have hz6 : w5.heap.size ≤ w6.heap.size := HG6.out.size
    have lq6 : s < w6.heap.size := HS6.out.lt
    clear hs hg
    have hxm : x ≤ 4 := by omega
    go_wp2
    go_loopw [9, 10, 11] (fun v u i wr => ∃ (j : Nat) (ds gs : List Int), i = .int .i64 (j : Int) ∧ ds.length + j ≤ 4 ∧ gs.length + j ≤ 4 ∧ Hid (Duo wr w5.heap.size v ds u gs) ∧ w5.heap.size ≤ wr.heap.size ∧ Hid (Src wr s) ∧ Hid (Gs s w5 wr)) (fun _ _ i _ => (intOf i).toNat)
    case atStart => exact ⟨x.toNat, [], [], by congr 1; omega, by simp; omega, by simp; omega, HD6, hz6, HS6, HG6⟩
    case round =>
      obtain ⟨j, ds, gs, rfl, hl, hl2, HV, hz, HR, HH⟩ := hrel
      have hlq := HR.out.lt
      cases j with
      | zero =>
        go_wp2_with fail
        refine (next_any s _ _ (by repeat (first | with_reducible exact HR.out | with_reducible refine Src.alloc ?_ _))).mono ?_
        rintro en w21 ⟨z, rfl, z0, zb, hs, hg⟩
        have HS21 := Lib.hid hs
        have HG21 : Hid (Gs s w5 w21) := Gs.trans (by repeat (first | with_reducible exact HH.out | with_reducible refine Gs.alloc ?_ _)) hg
        have HD21 : Hid (Duo w21 w5.heap.size (u9) (ds) (u10) (gs)) := Duo.gs (by repeat (first | with_reducible exact HV.out | with_reducible refine Duo.alloc ?_ _)) hg ls5
        have hz21 : w5.heap.size ≤ w21.heap.size := HG21.out.size
        have lq21 : s < w21.heap.size := HS21.out.lt
        clear hs hg
        by_cases e0 : z = 0
        · have f0 : (z == 0) = true := by simpa using e0
          clear e0
          go_wp2_with fail
          refine (pick_any s _ 3 3 [(-1), 400, 401] _ (by repeat (first | with_reducible exact HS21.out | with_reducible refine Src.alloc ?_ _)) rfl (by decide) (by decide) (Rd.new2 _ _ [(-1), 400, 401] (by first | (simp only [World.size_alloc]; done) | (go_size; done))) (fun b off e => by cases e; omega)).mono ?_
          rintro en w22 ⟨L2, rfl, L2m, hs, hg⟩
          have HS22 := Lib.hid hs
          have HG22 : Hid (Gs s w5 w22) := Gs.trans (by repeat (first | with_reducible exact HG21.out | with_reducible refine Gs.alloc ?_ _)) hg
          have HD22 : Hid (Duo w22 w5.heap.size (u9) (ds) (u10) (gs)) := Duo.gs (by repeat (first | with_reducible exact HD21.out | with_reducible refine Duo.alloc ?_ _)) hg ls5
          have hz22 : w5.heap.size ≤ w22.heap.size := HG22.out.size
          have lq22 : s < w22.heap.size := HS22.out.lt
          clear hs hg
          go_wp2
          (try simp only [Exit.inBlock, Exit.then])
          refine bodyPost_ret (res_four rfl _ _ _) rfl ?_
          exact ⟨_, _, _, ps, ds, gs, L2, rfl, OwnV.low (OwnV.gs HO5.out HG22.out ls0) hz1, OwnV.low HD22.out.1 hz15, OwnV.low HD22.out.2.1 hz15, hpl, (by (try simp only [List.length_append, List.length_singleton]); omega), (by (try simp only [List.length_append, List.length_singleton]); omega), HB1.out.trans (Gs.to_below (s := s) (Gs.trans HG5.out HG22.out) hs1 hz1)⟩
        · have f0 : (z == 0) = false := by simpa using e0
          clear e0
          by_cases e1 : z = 1
          · have f1 : (z == 1) = true := by simpa using e1
            clear e1
            go_wp2_with (at_builtin; refine app_lies rfl _ _ rfl w5.heap.size (u10) (gs) rfl (OwnV.alloc (Duo.swap HD21.out).1 _) (1) _ rfl (cell_new1 _ _) (by (try simp only [List.length_append, List.length_singleton]); omega) (by simp only [World.size_alloc]; omega) ?_; intro g22 cap22 w22 hown hg hat)
            have hb := Duo.bel (Duo.swap HD21.out) _ hz21 hg
            have HD22 : Hid (Duo w22 w5.heap.size (u9) (ds) (.slice (some ⟨g22, 0, none⟩) ((gs).length + 1) cap22) (gs ++ [1])) := Duo.swap (Duo.app (Duo.swap HD21.out) _ hown hg hat)
            have HS22 := Lib.hid (Src.low HS21.out hb ls5)
            have HG22 : Hid (Gs s w5 w22) := Gs.then HG21.out hb
            have hz22 : w5.heap.size ≤ w22.heap.size := HG22.out.size
            have lq22 : s < w22.heap.size := HS22.out.lt
            clear hown hg hat hb
            go_wp2
            (try simp only [Exit.inBlock, Exit.then])
            refine bodyPost_ret (res_four rfl _ _ _) rfl ?_
            exact ⟨_, _, _, ps, ds, gs ++ [1], L, rfl, OwnV.low (OwnV.gs HO5.out HG22.out ls0) hz1, OwnV.low HD22.out.1 hz15, OwnV.low HD22.out.2.1 hz15, hpl, (by (try simp only [List.length_append, List.length_singleton]); omega), (by (try simp only [List.length_append, List.length_singleton]); omega), HB1.out.trans (Gs.to_below (s := s) (Gs.trans HG5.out HG22.out) hs1 hz1)⟩
          · have f1 : (z == 1) = false := by simpa using e1
            clear e1
            by_cases e2 : z = 2
            · have f2 : (z == 2) = true := by simpa using e2
              clear e2
              go_wp2_with fail
              refine (pick_any s _ 2 2 [(-1), L] _ (by repeat (first | with_reducible exact HS21.out | with_reducible refine Src.alloc ?_ _)) rfl (by decide) (by decide) (Rd.new2 _ _ [(-1), L] (by first | (simp only [World.size_alloc]; done) | (go_size; done))) (fun b off e => by cases e; omega)).mono ?_
              rintro en w22 ⟨y, rfl, ym, hs, hg⟩
              have HS22 := Lib.hid hs
              have HG22 : Hid (Gs s w5 w22) := Gs.trans (by repeat (first | with_reducible exact HG21.out | with_reducible refine Gs.alloc ?_ _)) hg
              have HD22 : Hid (Duo w22 w5.heap.size (u9) (ds) (u10) (gs)) := Duo.gs (by repeat (first | with_reducible exact HD21.out | with_reducible refine Duo.alloc ?_ _)) hg ls5
              have hz22 : w5.heap.size ≤ w22.heap.size := HG22.out.size
              have lq22 : s < w22.heap.size := HS22.out.lt
              clear hs hg
              go_wp2_with (at_builtin; refine app_lies rfl _ _ rfl w5.heap.size (u9) (ds) rfl (OwnV.alloc HD22.out.1 _) (y) _ rfl (cell_new1 _ _) (by (try simp only [List.length_append, List.length_singleton]); omega) (by simp only [World.size_alloc]; omega) ?_; intro g23 cap23 w23 hown hg hat)
              have hb := Duo.bel HD22.out _ hz22 hg
              have HD23 : Hid (Duo w23 w5.heap.size (.slice (some ⟨g23, 0, none⟩) ((ds).length + 1) cap23) (ds ++ [y]) (u10) (gs)) := Duo.app HD22.out _ hown hg hat
              have HS23 := Lib.hid (Src.low HS22.out hb ls5)
              have HG23 : Hid (Gs s w5 w23) := Gs.then HG22.out hb
              have hz23 : w5.heap.size ≤ w23.heap.size := HG23.out.size
              have lq23 : s < w23.heap.size := HS23.out.lt
              clear hown hg hat hb
              go_wp2_with fail
              refine (pick_any s _ 2 2 [1000, 1001] _ (by repeat (first | with_reducible exact HS23.out | with_reducible refine Src.alloc ?_ _)) rfl (by decide) (by decide) (Rd.new2 _ _ [1000, 1001] (by first | (simp only [World.size_alloc]; done) | (go_size; done))) (fun b off e => by cases e; omega)).mono ?_
              rintro en w24 ⟨q, rfl, qm, hs, hg⟩
              have HS24 := Lib.hid hs
              have HG24 : Hid (Gs s w5 w24) := Gs.trans (by repeat (first | with_reducible exact HG23.out | with_reducible refine Gs.alloc ?_ _)) hg
              have HD24 : Hid (Duo w24 w5.heap.size (.slice (some ⟨g23, 0, none⟩) ((ds).length + 1) cap23) (ds ++ [y]) (u10) (gs)) := Duo.gs (by repeat (first | with_reducible exact HD23.out | with_reducible refine Duo.alloc ?_ _)) hg ls5
              have hz24 : w5.heap.size ≤ w24.heap.size := HG24.out.size
              have lq24 : s < w24.heap.size := HS24.out.lt
              clear hs hg
              go_wp2_with (at_builtin; refine app_lies rfl _ _ rfl w5.heap.size (u10) (gs) rfl (OwnV.alloc (Duo.swap HD24.out).1 _) (q) _ rfl (cell_new1 _ _) (by (try simp only [List.length_append, List.length_singleton]); omega) (by simp only [World.size_alloc]; omega) ?_; intro g25 cap25 w25 hown hg hat)
              have hb := Duo.bel (Duo.swap HD24.out) _ hz24 hg
              have HD25 : Hid (Duo w25 w5.heap.size (.slice (some ⟨g23, 0, none⟩) ((ds).length + 1) cap23) (ds ++ [y]) (.slice (some ⟨g25, 0, none⟩) ((gs).length + 1) cap25) (gs ++ [q])) := Duo.swap (Duo.app (Duo.swap HD24.out) _ hown hg hat)
              have HS25 := Lib.hid (Src.low HS24.out hb ls5)
              have HG25 : Hid (Gs s w5 w25) := Gs.then HG24.out hb
              have hz25 : w5.heap.size ≤ w25.heap.size := HG25.out.size
              have lq25 : s < w25.heap.size := HS25.out.lt
              clear hown hg hat hb
              go_wp2
              (try simp only [Exit.inBlock, Exit.then])
              refine bodyPost_ret (res_four rfl _ _ _) rfl ?_
              exact ⟨_, _, _, ps, ds ++ [y], gs ++ [q], L, rfl, OwnV.low (OwnV.gs HO5.out HG25.out ls0) hz1, OwnV.low HD25.out.1 hz15, OwnV.low HD25.out.2.1 hz15, hpl, (by (try simp only [List.length_append, List.length_singleton]); omega), (by (try simp only [List.length_append, List.length_singleton]); omega), HB1.out.trans (Gs.to_below (s := s) (Gs.trans HG5.out HG25.out) hs1 hz1)⟩
            · have f2 : (z == 2) = false := by simpa using e2
              clear e2
              go_wp2
              (try simp only [Exit.inBlock, Exit.then])
              refine bodyPost_ret (res_four rfl _ _ _) rfl ?_
              exact ⟨_, _, _, ps, ds, gs, L, rfl, OwnV.low (OwnV.gs HO5.out HG21.out ls0) hz1, OwnV.low HD21.out.1 hz15, OwnV.low HD21.out.2.1 hz15, hpl, (by (try simp only [List.length_append, List.length_singleton]); omega), (by (try simp only [List.length_append, List.length_singleton]); omega), HB1.out.trans (Gs.to_below (s := s) (Gs.trans HG5.out HG21.out) hs1 hz1)⟩
      | succ j =>
        have hj : (0 : Int) < ((j + 1 : Nat) : Int) := by omega
        go_wp2_with fail
        all_goals
          refine (next_any s _ _ (by repeat (first | with_reducible exact HR.out | with_reducible refine Src.alloc ?_ _))).mono ?_
          rintro en w11 ⟨y, rfl, y0, yb, hs, hg⟩
          have HS11 := Lib.hid hs
          have HG11 : Hid (Gs s w5 w11) := Gs.trans (by repeat (first | with_reducible exact HH.out | with_reducible refine Gs.alloc ?_ _)) hg
          have HD11 : Hid (Duo w11 w5.heap.size (u9) (ds) (u10) (gs)) := Duo.gs (by repeat (first | with_reducible exact HV.out | with_reducible refine Duo.alloc ?_ _)) hg ls5
          have hz11 : w5.heap.size ≤ w11.heap.size := HG11.out.size
          have lq11 : s < w11.heap.size := HS11.out.lt
          clear hs hg
          go_wp2_with (at_builtin; refine app_lies rfl _ _ rfl w5.heap.size (u9) (ds) rfl (OwnV.alloc HD11.out.1 _) (y) _ rfl (cell_new1 _ _) (by (try simp only [List.length_append, List.length_singleton]); omega) (by simp only [World.size_alloc]; omega) ?_; intro g12 cap12 w12 hown hg hat)
          have hb := Duo.bel HD11.out _ hz11 hg
          have HD12 : Hid (Duo w12 w5.heap.size (.slice (some ⟨g12, 0, none⟩) ((ds).length + 1) cap12) (ds ++ [y]) (u10) (gs)) := Duo.app HD11.out _ hown hg hat
          have HS12 := Lib.hid (Src.low HS11.out hb ls5)
          have HG12 : Hid (Gs s w5 w12) := Gs.then HG11.out hb
          have hz12 : w5.heap.size ≤ w12.heap.size := HG12.out.size
          have lq12 : s < w12.heap.size := HS12.out.lt
          clear hown hg hat hb
          go_wp2_with fail
          refine (next_any s _ _ (by repeat (first | with_reducible exact HS12.out | with_reducible refine Src.alloc ?_ _))).mono ?_
          rintro en w13 ⟨z, rfl, z0, zb, hs, hg⟩
          have HS13 := Lib.hid hs
          have HG13 : Hid (Gs s w5 w13) := Gs.trans (by repeat (first | with_reducible exact HG12.out | with_reducible refine Gs.alloc ?_ _)) hg
          have HD13 : Hid (Duo w13 w5.heap.size (.slice (some ⟨g12, 0, none⟩) ((ds).length + 1) cap12) (ds ++ [y]) (u10) (gs)) := Duo.gs (by repeat (first | with_reducible exact HD12.out | with_reducible refine Duo.alloc ?_ _)) hg ls5
          have hz13 : w5.heap.size ≤ w13.heap.size := HG13.out.size
          have lq13 : s < w13.heap.size := HS13.out.lt
          clear hs hg
          go_wp2_with (at_builtin; refine app_lies rfl _ _ rfl w5.heap.size (u10) (gs) rfl (OwnV.alloc (Duo.swap HD13.out).1 _) ((z - 20)) _ rfl (cell_new1 _ _) (by (try simp only [List.length_append, List.length_singleton]); omega) (by simp only [World.size_alloc]; omega) ?_; intro g14 cap14 w14 hown hg hat)
          have hb := Duo.bel (Duo.swap HD13.out) _ hz13 hg
          have HD14 : Hid (Duo w14 w5.heap.size (.slice (some ⟨g12, 0, none⟩) ((ds).length + 1) cap12) (ds ++ [y]) (.slice (some ⟨g14, 0, none⟩) ((gs).length + 1) cap14) (gs ++ [(z - 20)])) := Duo.swap (Duo.app (Duo.swap HD13.out) _ hown hg hat)
          have HS14 := Lib.hid (Src.low HS13.out hb ls5)
          have HG14 : Hid (Gs s w5 w14) := Gs.then HG13.out hb
          have hz14 : w5.heap.size ≤ w14.heap.size := HG14.out.size
          have lq14 : s < w14.heap.size := HS14.out.lt
          clear hown hg hat hb
          go_roundw
          case rel => exact ⟨j, ds ++ [y], gs ++ [z - 20], by go_num, by simp only [List.length_append, List.length_singleton]; omega, by simp only [List.length_append, List.length_singleton]; omega, HD14, hz14, HS14, HG14⟩
          case measure => simp [intOf]
end Go.Proofs.Ytgfhmihnnjcagaa
