/- walks: signals with echoes drawn -/
import Derived.Test.YtgfhmihnnjcagaaDrW6
import Derived.BigRegion
set_option linter.unusedVariables false
set_option linter.unusedSimpArgs false
namespace Go.Proofs.Ytgfhmihnnjcagaa
open Go.RowKit

/-- a slice that can be read, not in block s -/
def RdS (s : Nat) (w : World) (A : Option Addr) (xs : List Int) : Prop :=
  xs = [] ∨ ∃ b off, A = some ⟨b, off, none⟩ ∧ b ≠ s ∧ ∀ k, k < xs.length → w.cell? ⟨b, off + k, none⟩ = some (.int .i64 (xs.getD k 0))
theorem RdS.rd {s : Nat} {w : World} {A : Option Addr} {xs : List Int} (h : RdS s w A xs) : Rd w A xs := by
  rcases h with h | ⟨b, off, e, _, h⟩
  · exact .inl h
  · exact .inr ⟨b, off, e, h⟩
theorem RdS.gs {s : Nat} {w w2 : World} {A : Option Addr} {xs : List Int} (h : RdS s w A xs) (hg : Gs s w w2) : RdS s w2 A xs := by
  rcases h with h | ⟨b, off, e, hn, h⟩
  · exact .inl h
  · exact .inr ⟨b, off, e, hn, fun k hk => hg.cell2 (h k hk) hn⟩
theorem Cells.rds {s : Nat} {w : World} {g : Nat} {xs : List Int} (h : Cells w g 0 xs) (hn : g ≠ s) : RdS s w (some ⟨g, 0, none⟩) xs := .inr ⟨g, 0, rfl, hn, h.1⟩
theorem OwnV.rds {s : Nat} {w : World} {B n c : Nat} {A : Option Addr} {xs : List Int} (h : OwnV w B (.slice A n c) xs) (hs : s < B) : RdS s w A xs := by
  obtain ⟨A2, c2, e, hR⟩ := h.R
  injection e with e1 e2 e3
  subst e1
  rcases hR.2.2 with ⟨_, h0⟩ | ⟨g, e4, hB, _, hc⟩
  · exact .inl (List.eq_nil_of_length_eq_zero h0)
  · subst e4
    exact hc.rds (by omega)
def L10Post (s : Nat) (w : World) (en : Ending) (w9 : World) : Prop := ∃ (A : Option Addr) (n c : Nat) (B : Option Addr) (m d : Nat) (xs ps : List Int), en = .returned (.tuple #[.slice A n c, .slice B m d]) ∧ xs.length = n ∧ n ≤ c ∧ n ≤ 40 ∧ RdS s w9 A xs ∧ (A = none → n = 0 ∧ c = 0) ∧ ps.length = m ∧ m ≤ d ∧ m ≤ 8 ∧ RdS s w9 B ps ∧ (B = none → m = 0 ∧ d = 0) ∧ Src w9 s ∧ Gs s w w9
theorem Cells.gs {s : Nat} {w w2 : World} {g : Nat} {xs : List Int} (h : Cells w g 0 xs) (hg : Gs s w w2) (hne : g ≠ s) : Cells w2 g 0 xs :=
  ⟨fun k hk => hg.cell2 (h.1 k hk) hne, fun k hk => hg.frozen2 (h.1 k hk) hne (h.2 k hk)⟩
set_option maxRecDepth 100000 in
set_option maxHeartbeats 8000000 in
theorem d10_any (s : Nat) (w : World) (h : Src w s) : Calls Try.prog 111 #[.pointer (some ⟨s, 0, none⟩)] w (L10Post s w) := by
  have ls0 := h.lt
  go_enter Try.func111, Try.ntmps111
  go_wp2_with fail
  refine (dPulse_any s _ h).mono ?_
  rintro en w1 ⟨pv, ps, rfl, hown, hp1, hp8, hs, hg⟩
  obtain ⟨Ap, cp, e1, hR⟩ := hown.R
  rcases hR.2.2 with ⟨_, h0⟩ | ⟨gp, e2, hgB, hgl, hcp⟩
  · exfalso; omega
  subst e2
  subst e1
  have hpc := hR.2.1
  obtain ⟨p, hp⟩ : ∃ p, p = ps.length := ⟨_, rfl⟩
  have HP : Hid (ps.length = p) := hp.symm
  rw [← hp] at hpc hp1 hp8 ⊢
  clear hp hR hown
  have HCP := Lib.hid hcp
  have HS1 := Lib.hid hs
  have HG01 := Lib.hid hg
  have ls1 : s < w1.heap.size := hs.lt
  clear hs hg hcp
  have HO0 := Lib.hid (OwnV.empty w1 w1.heap.size (Nat.le_refl _))
  go_wp2_with fail
  refine (next_any s _ _ (by repeat (first | with_reducible exact HS1.out | with_reducible refine Src.alloc ?_ _))).mono ?_
  rintro en w2 ⟨x, rfl, x0, xb, hs, hg⟩
  have HS2 := Lib.hid hs
  have HG2 : Hid (Gs s w1 w2) := Gs.trans (by repeat (first | with_reducible exact (Gs.refl s w1) | with_reducible refine Gs.alloc ?_ _)) hg
  have HO2_0 : Hid (OwnV w2 w1.heap.size (.slice (some ⟨w1.heap.size, 0, none⟩) 0 0) ([])) := OwnV.gs (by repeat (first | with_reducible exact HO0.out | with_reducible refine OwnV.alloc ?_ _)) hg ls1
  have hz2 : w1.heap.size ≤ w2.heap.size := HG2.out.size
  have lq2 : s < w2.heap.size := HS2.out.lt
  clear hs hg
  go_wp2_with fail
  refine (next_any s _ _ (by repeat (first | with_reducible exact HS2.out | with_reducible refine Src.alloc ?_ _))).mono ?_
  rintro en w3 ⟨y, rfl, y0, yb, hs, hg⟩
  have HS3 := Lib.hid hs
  have HG3 : Hid (Gs s w1 w3) := Gs.trans (by repeat (first | with_reducible exact HG2.out | with_reducible refine Gs.alloc ?_ _)) hg
  have HO3_0 : Hid (OwnV w3 w1.heap.size (.slice (some ⟨w1.heap.size, 0, none⟩) 0 0) ([])) := OwnV.gs (by repeat (first | with_reducible exact HO2_0.out | with_reducible refine OwnV.alloc ?_ _)) hg ls1
  have hz3 : w1.heap.size ≤ w3.heap.size := HG3.out.size
  have lq3 : s < w3.heap.size := HS3.out.lt
  clear hs hg
  have hyx : x ≤ 3 ∧ y ≤ 29 := by omega
  go_wp2
  go_loopw [5, 7] (fun v i wr => ∃ (j : Nat) (xs : List Int), i = .int .i64 (j : Int) ∧ xs.length + j ≤ 37 ∧ p ≤ xs.length + j ∧ Hid (OwnV wr w1.heap.size v xs) ∧ w1.heap.size ≤ wr.heap.size ∧ Hid (Src wr s) ∧ Hid (Gs s w1 wr)) (fun _ i _ => (intOf i).toNat)
  case atStart => exact ⟨(p + y).toNat, [], by congr 1; omega, by simp; omega, by simp; omega, HO3_0, hz3, HS3, HG3⟩
  case round =>
    obtain ⟨j, xs, rfl, hl, hl1, HV, hz, HR, HH⟩ := hrel
    have hlq := HR.out.lt
    cases j with
    | zero =>
      obtain ⟨Aq, cq, e1, hR⟩ := HV.out.R
      rcases hR.2.2 with ⟨_, h0⟩ | ⟨gq, e2, hqB, hql, hcq⟩
      · exfalso; omega
      subst e2
      subst e1
      have hqc := hR.2.1
      obtain ⟨N, hN⟩ : ∃ N, N = xs.length := ⟨_, rfl⟩
      have HXN : Hid (xs.length = N) := hN.symm
      rw [← hN] at hqc hl hl1 ⊢
      have HQ := Lib.hid hcq
      have hgs : gq ≠ s := by omega
      have hgs2 : gp ≠ s := by omega
      have hgg : ¬ gp = gq := by omega
      have hgg2 : ¬ gq = gp := by omega
      clear hR hcq HV hN
      go_wp2_with fail
      refine (next_any s _ _ HR.out).mono ?_
      rintro en w4 ⟨m, rfl, m0, mb, hs, hg⟩
      have HS4 := Lib.hid hs
      have HG4 : Hid (Gs s w1 w4) := Gs.trans HH.out hg
      have HQ4 : Hid (Cells w4 gq 0 xs) := Cells.gs HQ.out hg hgs
      clear hs hg HQ HR HH hz hlq
      go_wp2
      go_loopw [8] (fun i wr => ∃ (j : Nat) (xs : List Int), i = .int .i64 (j : Int) ∧ j ≤ 3 ∧ Hid (xs.length = N) ∧ Hid (Cells wr gq 0 xs) ∧ w1.heap.size ≤ wr.heap.size ∧ Hid (Src wr s) ∧ Hid (Gs s w1 wr)) (fun i _ => (intOf i).toNat)
      case atStart => exact ⟨m.toNat, xs, by congr 1; omega, by omega, HXN, HQ4, HG4.out.size, HS4, HG4⟩
      case round =>
        clear HQ4 HG4 HS4 HXN
        clear xs
        obtain ⟨j, xs, rfl, hj3, HX, HC, hz, HR, HH⟩ := hrel
        cases j with
        | zero =>
          go_wp2_with fail
          refine (next_any s _ _ HR.out).mono ?_
          rintro en w7 ⟨z, rfl, z0, zb, hs, hg⟩
          have HS7 := Lib.hid hs
          have HG7 : Hid (Gs s w1 w7) := Gs.trans HH.out hg
          have HQ7 : Hid (Cells w7 gq 0 xs) := Cells.gs HC.out hg hgs
          have HP7 : Hid (Cells w7 gp 0 ps) := Cells.gs HCP.out HG7.out hgs2
          have HG9 : Hid (Gs s w w7) := Gs.trans HG01.out HG7.out
          have lq7 : s < w7.heap.size := HS7.out.lt
          clear hs hg HC HR HH hz
          by_cases e0 : z = 0
          · have f0 : (z == 0) = true := by simpa using e0
            clear e0
            go_wp2
            go_ret2
            exact ⟨some ⟨gq, 0, none⟩, N, cq, none, 0, 0, xs, [], rfl, HX.out, hqc, by omega, (Cells.rds HQ7.out hgs), (by intro e; cases e), rfl, Nat.le_refl _, by omega, .inl rfl, fun _ => ⟨rfl, rfl⟩, HS7.out, HG9.out⟩
          · have f0 : (z == 0) = false := by simpa using e0
            clear e0
            by_cases e1 : z = 1
            · have f1 : (z == 1) = true := by simpa using e1
              clear e1
              have hpp : ((p : Int) - 1).toNat = p - 1 := by omega
              have hp0 : (0 : Int) ≤ (p : Int) - 1 := by omega
              have htl : (ps.take (p - 1)).length = p - 1 := by rw [List.length_take, HP.out]; omega
              have hrt : Rd w7 (some ⟨gp, 0, none⟩) (ps.take (p - 1)) := by
                refine .inr ⟨gp, 0, rfl, fun k hk => ?_⟩
                rw [htl] at hk
                rw [HP7.out.1 k (by rw [HP.out]; omega)]
                simp [List.getD_eq_getElem?_getD, List.getElem?_take, hk]
              have HRT := Lib.hid hrt
              have HTL := Lib.hid htl
              clear hrt htl
              go_wp2_with fail
              refine (own_any (some ⟨gp, 0, none⟩) (p - 1) cp (ps.take (p - 1)) _ HTL.out (by omega) HRT.out (by intro e; cases e)).mono ?_
              rintro en w8 ⟨v9, rfl, hown, hb⟩
              obtain ⟨A9, n9, c9, rfl, hn9, hc9, hr9, ha9⟩ := hown.sl
              have HS8 := Lib.hid (Src.low HS7.out hb lq7)
              have HG8 := Lib.hid (Gs.then HG9.out (hb.mono HG9.out.size))
              have HP8 := Lib.hid (HP7.out.below hb)
              have HX8 := Lib.hid hn9
              have HR8 := Lib.hid (OwnV.rds hown lq7)
              have HA8 := Lib.hid ha9
              have hn40 : n9 ≤ 40 := by rw [HTL.out] at hn9; omega
              clear hown hb hn9 hr9 ha9
              go_wp2
              go_ret2
              exact ⟨A9, n9, c9, some ⟨gp, 0, none⟩, p, cp, ps.take (p - 1), ps, rfl, HX8.out, hc9, hn40, HR8.out, HA8.out, HP.out, hpc, hp8, (Cells.rds HP8.out hgs2), (by intro e; cases e), HS8.out, HG8.out⟩
            · have f1 : (z == 1) = false := by simpa using e1
              clear e1
              by_cases e2 : z = 2
              · have f2 : (z == 2) = true := by simpa using e2
                clear e2
                go_wp2_with fail
                refine (pick_any s _ 3 3 [1000, 1001, (-1000)] _ (by repeat (first | with_reducible exact HS7.out | with_reducible refine Src.alloc ?_ _)) rfl (by decide) (by decide) (Rd.new2 _ _ [1000, 1001, (-1000)] (by first | (simp only [World.size_alloc]; done) | (go_size; done))) (fun b off e => by cases e; omega)).mono ?_
                rintro en w8 ⟨q9, rfl, q9m, hs, hg⟩
                have HS8 := Lib.hid hs
                have hg78 : Gs s w7 w8 := Gs.trans (Gs.alloc (Gs.refl s w7) _) hg
                have HG8 : Hid (Gs s w1 w8) := Gs.trans HG7.out hg78
                have HQ8 : Hid (Cells w8 gq 0 xs) := Cells.gs HQ7.out hg78 hgs
                have HP8 : Hid (Cells w8 gp 0 ps) := Cells.gs HP7.out hg78 hgs2
                have hN0 : (0 : Int) < N := by omega
                have hl0 : 0 < xs.length := by rw [HX.out]; omega
                have hy := HQ8.out.1 0 hl0
                have hf := HQ8.out.2 0 hl0
                simp only [Nat.zero_add, Nat.add_zero] at hy hf
                have hbs : Below w1.heap.size w8 (w8.setCell ⟨gq, 0, none⟩ (.int .i64 q9)) := Below.setCell (Below.refl _ _) hqB _
                have HQ9 : Hid (Cells (w8.setCell ⟨gq, 0, none⟩ (.int .i64 q9)) gq 0 (xs.set 0 q9)) := HQ8.out.put 0 q9 hl0
                have HP9 : Hid (Cells (w8.setCell ⟨gq, 0, none⟩ (.int .i64 q9)) gp 0 ps) := HP8.out.far (grown_set (World.grownBy.refl w8 _)) hgg
                have HS9 : Hid (Src (w8.setCell ⟨gq, 0, none⟩ (.int .i64 q9)) s) := Src.low HS8.out hbs ls1
                have HGB : Hid (Gs s w (w8.setCell ⟨gq, 0, none⟩ (.int .i64 q9))) := Gs.trans HG01.out (Gs.then HG8.out hbs)
                have HX9 : Hid ((xs.set 0 q9).length = N) := by show _ = _; rw [List.length_set]; exact HX.out
                clear hs hg hg78 hbs hl0
                go_wp2
                go_ret2
                exact ⟨some ⟨gq, 0, none⟩, N, cq, some ⟨gp, 0, none⟩, p, cp, (xs.set 0 q9), ps, rfl, HX9.out, hqc, by omega, (Cells.rds HQ9.out hgs), (by intro e; cases e), HP.out, hpc, hp8, (Cells.rds HP9.out hgs2), (by intro e; cases e), HS9.out, HGB.out⟩
              · have f2 : (z == 2) = false := by simpa using e2
                clear e2
                go_wp2
                go_ret2
                exact ⟨some ⟨gq, 0, none⟩, N, cq, some ⟨gp, 0, none⟩, p, cp, xs, ps, rfl, HX.out, hqc, by omega, (Cells.rds HQ7.out hgs), (by intro e; cases e), HP.out, hpc, hp8, (Cells.rds HP7.out hgs2), (by intro e; cases e), HS7.out, HG9.out⟩
        | succ j =>
          have hj : (0 : Int) < ((j + 1 : Nat) : Int) := by omega
          go_wp2_with fail
          refine (next_any s _ _ HR.out).mono ?_
          rintro en w5 ⟨d0, rfl, d1, d2, hs, hg⟩
          have HS5 := Lib.hid hs
          have HG5 : Hid (Gs s w1 w5) := Gs.trans HH.out hg
          have HQ5 : Hid (Cells w5 gq 0 xs) := Cells.gs HC.out hg hgs
          clear hs hg HC HR HH hz
          go_wp2_with fail
          refine (next_any s _ _ HS5.out).mono ?_
          rintro en w6 ⟨h, rfl, h0, hb, hs, hg⟩
          have HS6 := Lib.hid hs
          have HG6 : Hid (Gs s w1 w6) := Gs.trans HG5.out hg
          have HQ6 : Hid (Cells w6 gq 0 xs) := Cells.gs HQ5.out hg hgs
          clear hs hg HS5 HG5 HQ5
          obtain ⟨d, rfl⟩ : ∃ d : Nat, d0 = d := ⟨d0.toNat, by omega⟩
          have hdp : d + p ≤ N := by omega
          clear d1 d2
          go_wp2
          go_loopw [11] (fun i wr => ∃ (k : Nat) (xs : List Int), k ≤ p ∧ i = .int .i64 (k : Int) ∧ Hid (xs.length = N) ∧ Hid (Cells wr gq 0 xs) ∧ w1.heap.size ≤ wr.heap.size ∧ Hid (Src wr s) ∧ Hid (Gs s w1 wr)) (fun i _ => p - (intOf i).toNat)
          case atStart => exact ⟨0, xs, Nat.zero_le _, rfl, HX, HQ6, HG6.out.size, HS6, HG6⟩
          case round =>
            clear HQ6 HG6 HS6 HX
            clear xs
            obtain ⟨k, xs, hk, rfl, HX, HC, hz, HR, HH⟩ := hrel
            by_cases hlt : k < p
            · have hx := (Cells.gs HCP.out HH.out hgs2).1 k (by rw [HP.out]; exact hlt)
              have hln : d + k < xs.length := by rw [HX.out]; omega
              have hy := HC.out.1 (d + k) hln
              have hf := HC.out.2 (d + k) hln
              simp only [Nat.zero_add] at hx hy hf
              obtain ⟨y9, hyy⟩ : ∃ y, y = xs.getD (d + k) 0 := ⟨_, rfl⟩
              obtain ⟨x9, hxx⟩ : ∃ x, x = ps.getD k 0 := ⟨_, rfl⟩
              rw [← hyy] at hy
              rw [← hxx] at hx
              have HK2 : Hid (∀ z : Int, Cells (wr.setCell ⟨gq, d + k, none⟩ (.int .i64 z)) gq 0 (xs.set (d + k) z)) := by
                show ∀ z : Int, _
                intro z
                have h2 := HC.out.put (d + k) z hln
                rw [Nat.zero_add] at h2
                exact h2
              have HB2 : Hid (∀ z : Int, Below w1.heap.size wr (wr.setCell ⟨gq, d + k, none⟩ (.int .i64 z)).drew) := fun z => Below.drew (Below.setCell (Below.refl _ _) hqB _)
              clear hyy hxx hln
              have hi0 : (0 : Int) ≤ (d : Int) + k := by omega
              have hi1 : (d : Int) + k < N := by omega
              have hi2 : ((d : Int) + k).toNat = d + k := by omega
              go_wp2
              go_region
              go_wp2
              go_roundw
              case rel => exact ⟨k + 1, _, by omega, by go_num, by show _ = _; rw [List.length_set]; exact HX.out, HK2.out _, Nat.le_trans hz (HB2.out _).size, Src.low HR.out (HB2.out _) ls1, Gs.then HH.out (HB2.out _)⟩
              case measure => simp [intOf]; omega
            · obtain rfl : k = p := by omega
              go_wp2
              go_roundw
              case rel => exact ⟨j, xs, by go_num, by omega, HX, HC, hz, HR, HH⟩
              case measure => simp [intOf]
    | succ j =>
      have hj : (0 : Int) < ((j + 1 : Nat) : Int) := by omega
      go_wp2_with fail
      refine (next_any s _ _ (by repeat (first | with_reducible exact HR.out | with_reducible refine Src.alloc ?_ _))).mono ?_
      rintro en w11 ⟨z, rfl, z0, zb, hs, hg⟩
      have HS11 := Lib.hid hs
      have HG11 : Hid (Gs s w1 w11) := Gs.trans (by repeat (first | with_reducible exact HH.out | with_reducible refine Gs.alloc ?_ _)) hg
      have HO11_0 : Hid (OwnV w11 w1.heap.size (u5) (xs)) := OwnV.gs (by repeat (first | with_reducible exact HV.out | with_reducible refine OwnV.alloc ?_ _)) hg ls1
      have hz11 : w1.heap.size ≤ w11.heap.size := HG11.out.size
      have lq11 : s < w11.heap.size := HS11.out.lt
      clear hs hg
      go_wp2_with (at_builtin; refine app_int rfl _ _ rfl w1.heap.size (u5) (xs) rfl (OwnV.alloc (by repeat (first | with_reducible exact HO11_0.out | with_reducible refine OwnV.alloc ?_ _)) _) ((z - x)) _ rfl (cell_new1 _ _) (by omega) (by simp only [World.size_alloc]; omega) ?_; intro g12 cap12 w12 hown hb)
      have HS12 := Lib.hid (Src.low (Src.alloc (by repeat (first | with_reducible exact HS11.out | with_reducible refine Src.alloc ?_ _)) _) hb ls1)
      have HG12 : Hid (Gs s w1 w12) := Gs.then (Gs.alloc (by repeat (first | with_reducible exact HG11.out | with_reducible refine Gs.alloc ?_ _)) _) hb
      have HO12_0 : Hid (OwnV w12 w1.heap.size (.slice (some ⟨g12, 0, none⟩) ((xs).length + 1) cap12) (xs ++ [(z - x)])) := hown
      have hz12 : w1.heap.size ≤ w12.heap.size := HG12.out.size
      have lq12 : s < w12.heap.size := HS12.out.lt
      clear hown hb
      go_roundw
      case rel => exact ⟨j, xs ++ [z - x], by go_num, by simp; omega, by simp; omega, HO12_0, hz12, HS12, HG12⟩
      case measure => simp [intOf]

/-- a signal and a pulse that were drawn, as a law reads them -/
def MsDraw (w : World) (en : Ending) (w9 : World) : Prop := ∃ (A : Option Addr) (n c : Nat) (B : Option Addr) (m d : Nat) (xs ps : List Int), en = .returned (.tuple #[.slice A n c, .slice B m d]) ∧ xs.length = n ∧ n ≤ c ∧ n ≤ 40 ∧ Rd w9 A xs ∧ (A = none → n = 0 ∧ c = 0) ∧ ps.length = m ∧ m ≤ d ∧ m ≤ 8 ∧ Rd w9 B ps ∧ (B = none → m = 0 ∧ d = 0) ∧ Below w.heap.size w w9

set_option maxRecDepth 100000 in
set_option maxHeartbeats 8000000 in
theorem dMs_any (A : Option Addr) (n c : Nat) (w : World) (hr : RdB w A n) (hm : n ≤ 4096) : Calls Try.prog 55 #[.slice A n c] w (MsDraw w) := by
  go_enter Try.func55, Try.ntmps55
  go_wp2_with fail
  refine (from_any A n c _ hr hm).mono ?_
  rintro en w1 ⟨s, rfl, hs1, hS1, hb1⟩
  have ls0 := hS1.lt
  have HB1 := Lib.hid hb1
  have hz1 := hb1.size
  clear hr hb1
  go_wp2_with fail
  refine (d10_any s _ (by repeat (first | with_reducible exact hS1 | with_reducible refine Src.alloc ?_ _))).mono ?_
  rintro en w2 ⟨A2, n2, c2, B2, m2, d2, xs, ps, rfl, q1, q2, q3, q4, q5, q6, q7, q8, q9, q10, hs, hg⟩
  have Q4 := Lib.hid q4.rd
  have Q9 := Lib.hid q9.rd
  have Q5 := Lib.hid q5
  have Q10 := Lib.hid q10
  have Q1 := Lib.hid q1
  have Q6 := Lib.hid q6
  have HG := Lib.hid hg
  clear q4 q9 q5 q10 q1 q6 hs hg
  go_wp2
  go_ret2
  exact ⟨A2, n2, c2, B2, m2, d2, xs, ps, rfl, Q1.out, q2, q3, Q4.out, Q5.out, Q6.out, q7, q8, Q9.out, Q10.out, HB1.out.trans (Gs.to_below (s := s) HG.out hs1 hz1)⟩
end Go.Proofs.Ytgfhmihnnjcagaa
