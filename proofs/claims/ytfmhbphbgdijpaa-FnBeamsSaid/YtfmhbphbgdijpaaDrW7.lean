/- walks: channels and delays drawn -/
import Derived.Test.YtfmhbphbgdijpaaDrW6
set_option linter.unusedVariables false
set_option linter.unusedSimpArgs false
namespace Go.Proofs.Ytfmhbphbgdijpaa
open Go.RowKit

def BmDraw (w : World) (en : Ending) (w9 : World) : Prop := ∃ (A : Option Addr) (n c : Nat) (rows : List (List Int)) (B : Option Addr) (p d : Nat) (ds : List Int), en = .returned (.tuple #[.slice A n c, .slice B p d]) ∧ rows.length = n ∧ n ≤ c ∧ n ≤ 5 ∧ (∀ k, (rows.getD k []).length ≤ 500) ∧ RdM w9 A rows ∧ ds.length = p ∧ p ≤ d ∧ p ≤ 10 ∧ Rd w9 B ds ∧ Below w.heap.size w w9

set_option maxRecDepth 100000 in
set_option maxHeartbeats 8000000 in
theorem dBm_any (A : Option Addr) (n c : Nat) (w : World) (hr : RdB w A n) (hm : n ≤ 4096) : Calls Try.prog 19 #[.slice A n c] w (BmDraw w) := by
  go_enter Try.func19, Try.ntmps19
  go_wp2_with fail
  refine (from_any A n c _ hr hm).mono ?_
  rintro en w1 ⟨s, rfl, hs1, hS1, hb1⟩
  have ls0 := hS1.lt
  have HB1 := Lib.hid hb1
  have hz1 := hb1.size
  clear hr hb1
  go_wp2_with fail
  refine (dChan_any s _ (by repeat (first | with_reducible exact hS1 | with_reducible refine Src.alloc ?_ _))).mono ?_
  rintro en w2 ⟨v, rows, rfl, hch, hrl, hs, hg⟩
  obtain ⟨A2, n2, c2, e2, hn2, hc2, hrm⟩ := hch.sl ls0
  subst e2
  have hn5 : n2 ≤ 5 := by omega
  have HN2 := Lib.hid hn2
  have HM2 := Lib.hid hrm
  have HS2 := Lib.hid hs
  have HG2 := Lib.hid hg
  have lq2 : s < w2.heap.size := hs.lt
  clear hch hrl hn2 hrm hs hg
  have HO0 := Lib.hid (OwnV.empty w2 w2.heap.size (Nat.le_refl _))
  have HR0 := Lib.hid (Src.alloc HS2.out (.cells #[] 2))
  have HH0 := Lib.hid (Gs.alloc (Gs.refl s w2) (.cells #[] 2))
  go_wp2
  go_loopw [6, 7] (fun u i wr => ∃ (k : Nat) (ds : List Int), k ≤ n2 ∧ i = .int .i64 (k : Int) ∧ Hid (ds.length = k) ∧ Hid (OwnV wr w2.heap.size u ds) ∧ Hid (Src wr s) ∧ Hid (Gs s w2 wr)) (fun _ i _ => n2 - (intOf i).toNat)
  case atStart => exact ⟨0, [], Nat.zero_le _, rfl, rfl, HO0, HR0, HH0⟩
  case round =>
    clear HO0 HR0 HH0
    obtain ⟨k, ds, hk, rfl, HL, HV, HR, HH⟩ := hrel
    have hz : w2.heap.size ≤ wr.heap.size := HH.out.size
    have hlq := HR.out.lt
    have hdl : ds.length ≤ 5 := by rw [HL.out]; omega
    by_cases hkn : k < n2
    · have hki : (k : Int) < n2 := by omega
      go_wp2_with fail
      refine (next_any s _ _ (by repeat (first | with_reducible exact HR.out | with_reducible refine Src.alloc ?_ _))).mono ?_
      rintro en w11 ⟨y, rfl, y0, yb, hs, hg⟩
      have HS11 := Lib.hid hs
      have HG11 : Hid (Gs s w2 w11) := Gs.trans (by repeat (first | with_reducible exact HH.out | with_reducible refine Gs.alloc ?_ _)) hg
      have HO11_0 : Hid (OwnV w11 w2.heap.size (u6) (ds)) := OwnV.gs (by repeat (first | with_reducible exact HV.out | with_reducible refine OwnV.alloc ?_ _)) hg lq2
      have hz11 : w2.heap.size ≤ w11.heap.size := HG11.out.size
      have lq11 : s < w11.heap.size := HS11.out.lt
      clear hs hg
      go_wp2_with (at_builtin; refine app_int rfl _ _ rfl w2.heap.size (u6) (ds) rfl (OwnV.alloc (by repeat (first | with_reducible exact HO11_0.out | with_reducible refine OwnV.alloc ?_ _)) _) ((y - 5)) _ rfl (cell_new1 _ _) (by omega) (by simp only [World.size_alloc]; omega) ?_; intro g12 cap12 w12 hown hb)
      have HS12 := Lib.hid (Src.low (Src.alloc (by repeat (first | with_reducible exact HS11.out | with_reducible refine Src.alloc ?_ _)) _) hb lq2)
      have HG12 : Hid (Gs s w2 w12) := Gs.then (Gs.alloc (by repeat (first | with_reducible exact HG11.out | with_reducible refine Gs.alloc ?_ _)) _) hb
      have HO12_0 : Hid (OwnV w12 w2.heap.size (.slice (some ⟨g12, 0, none⟩) ((ds).length + 1) cap12) (ds ++ [(y - 5)])) := hown
      have hz12 : w2.heap.size ≤ w12.heap.size := HG12.out.size
      have lq12 : s < w12.heap.size := HS12.out.lt
      clear hown hb
      go_roundw
      case rel => exact ⟨k + 1, ds ++ [y - 5], by omega, by go_num, by show _ = _; (rw [List.length_append, HL.out]; rfl), HO12_0, HS12, HG12⟩
      case measure => simp [intOf]; omega
    · have hki : ¬ (k : Int) < n2 := by omega
      go_wp2_with fail
      refine (next_any s _ _ (by repeat (first | with_reducible exact HR.out | with_reducible refine Src.alloc ?_ _))).mono ?_
      rintro en w21 ⟨z, rfl, z0, zb, hs, hg⟩
      have HS21 := Lib.hid hs
      have HG21 : Hid (Gs s w2 w21) := Gs.trans (by repeat (first | with_reducible exact HH.out | with_reducible refine Gs.alloc ?_ _)) hg
      have HO21_0 : Hid (OwnV w21 w2.heap.size (u6) (ds)) := OwnV.gs (by repeat (first | with_reducible exact HV.out | with_reducible refine OwnV.alloc ?_ _)) hg lq2
      have hz21 : w2.heap.size ≤ w21.heap.size := HG21.out.size
      have lq21 : s < w21.heap.size := HS21.out.lt
      clear hs hg
      by_cases e0 : z = 0
      · have f0 : (z == 0) = true := by simpa using e0
        clear e0
        go_wp2_with (at_builtin; refine app_int rfl _ _ rfl w2.heap.size (u6) (ds) rfl (OwnV.alloc (by repeat (first | with_reducible exact HO21_0.out | with_reducible refine OwnV.alloc ?_ _)) _) (0) _ rfl (cell_new1 _ _) (by have := HL.out; omega) (by simp only [World.size_alloc]; omega) ?_; intro g22 cap22 w22 hown hb)
        have HS22 := Lib.hid (Src.low (Src.alloc (by repeat (first | with_reducible exact HS21.out | with_reducible refine Src.alloc ?_ _)) _) hb lq2)
        have HG22 : Hid (Gs s w2 w22) := Gs.then (Gs.alloc (by repeat (first | with_reducible exact HG21.out | with_reducible refine Gs.alloc ?_ _)) _) hb
        have HO22_0 : Hid (OwnV w22 w2.heap.size (.slice (some ⟨g22, 0, none⟩) ((ds).length + 1) cap22) (ds ++ [0])) := hown
        have hz22 : w2.heap.size ≤ w22.heap.size := HG22.out.size
        have lq22 : s < w22.heap.size := HS22.out.lt
        clear hown hb
        obtain ⟨B9, p9, d9, e9, hp9, hpd9, hr9, _⟩ := HO22_0.out.sl
        have hp10 : p9 ≤ 10 := by have := HL.out; (try have := HTL.out); (try simp only [List.length_append, List.length_singleton, List.length_take] at hp9); omega
        cases e9
        have HR9 := Lib.hid hr9
        have HP9 := Lib.hid hp9
        have HMF := Lib.hid (HM2.out.gs (by repeat (first | with_reducible exact HG22.out | with_reducible refine Gs.alloc ?_ _)))
        have HBF := Lib.hid (HB1.out.trans (Gs.to_below (s := s) (Gs.trans HG2.out (by repeat (first | with_reducible exact HG22.out | with_reducible refine Gs.alloc ?_ _))) hs1 hz1))
        clear hr9 hp9
        go_wp2
        go_ret2
        exact ⟨A2, n2, c2, rows, _, _, _, _, rfl, HN2.out, hc2, hn5, HM2.out.rows, HMF.out.rdM, HP9.out, hpd9, hp10, HR9.out, HBF.out⟩
      · have f0 : (z == 0) = false := by simpa using e0
        clear e0
        by_cases e1 : z = 1
        · have f1 : (z == 1) = true := by simpa using e1
          clear e1
          obtain ⟨Ad, cd, e1, hR⟩ := HO21_0.out.R
          have hdc := hR.2.1
          rw [HL.out] at hdc e1
          have HRD := Lib.hid hR.rd
          have HAD : Hid (Ad = none → n2 = 0 ∨ 0 < k → k = 0) := fun h _ => by
            rcases hR.2.2 with ⟨_, h0⟩ | ⟨g, h1, _⟩
            · have := HL.out; omega
            · rw [h] at h1; cases h1
          have HA0 : Hid (Ad = none → k = 0 ∧ cd = 0) := fun h => by
            rcases HO21_0.out.sl with ⟨A', p', c', e', hp', hpc', _, ha'⟩
            have := e1.symm.trans e'
            injection this with q1 q2 q3
            have := ha' (by rw [← q1]; exact h)
            have := HL.out
            omega
          have HRR : Hid (Ad = none ∨ ∃ g, Ad = some ⟨g, 0, none⟩) := by
            show _ ∨ _
            rcases hR.2.2 with ⟨h0, _⟩ | ⟨g, h0, _⟩
            · exact .inl h0
            · exact .inr ⟨g, h0⟩
          subst e1
          clear hR HAD
          rcases Nat.lt_or_ge k 2 with hk0 | hk0
          · have hmx : ¬ (0 : Int) < (k : Int) - 1 := by omega
            have HTL : Hid ((ds.take 0).length = 0) := rfl
            have HRT : Hid (Rd w21 Ad (ds.take 0)) := .inl rfl
            rcases HRR.out with hA | ⟨gd, hA⟩
            · subst hA
              have hcz := HA0.out rfl
              obtain ⟨rfl, rfl⟩ := hcz
              go_wp2_with fail
              refine (own_any none 0 0 (ds.take 0) _ HTL.out (by omega) HRT.out (fun _ => ⟨rfl, rfl⟩)).mono ?_
              rintro en w22 ⟨v9, rfl, hown, hb⟩
              have HS22 := Lib.hid (Src.low HS21.out hb lq21)
              have HG22 : Hid (Gs s w2 w22) := Gs.then HG21.out (hb.mono HG21.out.size)
              have HO22_0 := Lib.hid (OwnV.low hown hz21)
              have hz22 : w2.heap.size ≤ w22.heap.size := HG22.out.size
              have lq22 : s < w22.heap.size := HS22.out.lt
              clear hown hb
              go_wp2_with fail
              refine (pick_any s _ 3 3 [1000000, 1000001, (-1000001)] _ (by repeat (first | with_reducible exact HS22.out | with_reducible refine Src.alloc ?_ _)) rfl (by decide) (by decide) (Rd.new2 _ _ [1000000, 1000001, (-1000001)] (by first | (simp only [World.size_alloc]; done) | (go_size; done))) (fun b off e => by cases e; omega)).mono ?_
              rintro en w23 ⟨x2, rfl, x2m, hs, hg⟩
              have HS23 := Lib.hid hs
              have HG23 : Hid (Gs s w2 w23) := Gs.trans (by repeat (first | with_reducible exact HG22.out | with_reducible refine Gs.alloc ?_ _)) hg
              have HO23_0 : Hid (OwnV w23 w2.heap.size (v9) ((ds.take 0))) := OwnV.gs (by repeat (first | with_reducible exact HO22_0.out | with_reducible refine OwnV.alloc ?_ _)) hg lq2
              have hz23 : w2.heap.size ≤ w23.heap.size := HG23.out.size
              have lq23 : s < w23.heap.size := HS23.out.lt
              clear hs hg
              go_wp2_with (at_builtin; refine app_int rfl _ _ rfl w2.heap.size (v9) ((ds.take 0)) rfl (OwnV.alloc (by repeat (first | with_reducible exact HO23_0.out | with_reducible refine OwnV.alloc ?_ _)) _) (x2) _ rfl (cell_new1 _ _) (by rw [HTL.out]; omega) (by simp only [World.size_alloc]; omega) ?_; intro g24 cap24 w24 hown hb)
              have HS24 := Lib.hid (Src.low (Src.alloc (by repeat (first | with_reducible exact HS23.out | with_reducible refine Src.alloc ?_ _)) _) hb lq2)
              have HG24 : Hid (Gs s w2 w24) := Gs.then (Gs.alloc (by repeat (first | with_reducible exact HG23.out | with_reducible refine Gs.alloc ?_ _)) _) hb
              have HO24_0 : Hid (OwnV w24 w2.heap.size (.slice (some ⟨g24, 0, none⟩) (((ds.take 0)).length + 1) cap24) ((ds.take 0) ++ [x2])) := hown
              have hz24 : w2.heap.size ≤ w24.heap.size := HG24.out.size
              have lq24 : s < w24.heap.size := HS24.out.lt
              clear hown hb
              obtain ⟨B9, p9, d9, e9, hp9, hpd9, hr9, _⟩ := HO24_0.out.sl
              have hp10 : p9 ≤ 10 := by have := HL.out; (try have := HTL.out); (try simp only [List.length_append, List.length_singleton, List.length_take] at hp9); omega
              cases e9
              have HR9 := Lib.hid hr9
              have HP9 := Lib.hid hp9
              have HMF := Lib.hid (HM2.out.gs (by repeat (first | with_reducible exact HG24.out | with_reducible refine Gs.alloc ?_ _)))
              have HBF := Lib.hid (HB1.out.trans (Gs.to_below (s := s) (Gs.trans HG2.out (by repeat (first | with_reducible exact HG24.out | with_reducible refine Gs.alloc ?_ _))) hs1 hz1))
              clear hr9 hp9
              go_wp2
              go_ret2
              exact ⟨A2, n2, c2, rows, _, _, _, _, rfl, HN2.out, hc2, hn5, HM2.out.rows, HMF.out.rdM, HP9.out, hpd9, hp10, HR9.out, HBF.out⟩
            · subst hA
              go_wp2_with fail
              refine (own_any (some ⟨gd, 0, none⟩) 0 cd (ds.take 0) _ HTL.out (by omega) HRT.out (by intro e; cases e)).mono ?_
              rintro en w22 ⟨v9, rfl, hown, hb⟩
              have HS22 := Lib.hid (Src.low HS21.out hb lq21)
              have HG22 : Hid (Gs s w2 w22) := Gs.then HG21.out (hb.mono HG21.out.size)
              have HO22_0 := Lib.hid (OwnV.low hown hz21)
              have hz22 : w2.heap.size ≤ w22.heap.size := HG22.out.size
              have lq22 : s < w22.heap.size := HS22.out.lt
              clear hown hb
              go_wp2_with fail
              refine (pick_any s _ 3 3 [1000000, 1000001, (-1000001)] _ (by repeat (first | with_reducible exact HS22.out | with_reducible refine Src.alloc ?_ _)) rfl (by decide) (by decide) (Rd.new2 _ _ [1000000, 1000001, (-1000001)] (by first | (simp only [World.size_alloc]; done) | (go_size; done))) (fun b off e => by cases e; omega)).mono ?_
              rintro en w23 ⟨x2, rfl, x2m, hs, hg⟩
              have HS23 := Lib.hid hs
              have HG23 : Hid (Gs s w2 w23) := Gs.trans (by repeat (first | with_reducible exact HG22.out | with_reducible refine Gs.alloc ?_ _)) hg
              have HO23_0 : Hid (OwnV w23 w2.heap.size (v9) ((ds.take 0))) := OwnV.gs (by repeat (first | with_reducible exact HO22_0.out | with_reducible refine OwnV.alloc ?_ _)) hg lq2
              have hz23 : w2.heap.size ≤ w23.heap.size := HG23.out.size
              have lq23 : s < w23.heap.size := HS23.out.lt
              clear hs hg
              go_wp2_with (at_builtin; refine app_int rfl _ _ rfl w2.heap.size (v9) ((ds.take 0)) rfl (OwnV.alloc (by repeat (first | with_reducible exact HO23_0.out | with_reducible refine OwnV.alloc ?_ _)) _) (x2) _ rfl (cell_new1 _ _) (by rw [HTL.out]; omega) (by simp only [World.size_alloc]; omega) ?_; intro g24 cap24 w24 hown hb)
              have HS24 := Lib.hid (Src.low (Src.alloc (by repeat (first | with_reducible exact HS23.out | with_reducible refine Src.alloc ?_ _)) _) hb lq2)
              have HG24 : Hid (Gs s w2 w24) := Gs.then (Gs.alloc (by repeat (first | with_reducible exact HG23.out | with_reducible refine Gs.alloc ?_ _)) _) hb
              have HO24_0 : Hid (OwnV w24 w2.heap.size (.slice (some ⟨g24, 0, none⟩) (((ds.take 0)).length + 1) cap24) ((ds.take 0) ++ [x2])) := hown
              have hz24 : w2.heap.size ≤ w24.heap.size := HG24.out.size
              have lq24 : s < w24.heap.size := HS24.out.lt
              clear hown hb
              obtain ⟨B9, p9, d9, e9, hp9, hpd9, hr9, _⟩ := HO24_0.out.sl
              have hp10 : p9 ≤ 10 := by have := HL.out; (try have := HTL.out); (try simp only [List.length_append, List.length_singleton, List.length_take] at hp9); omega
              cases e9
              have HR9 := Lib.hid hr9
              have HP9 := Lib.hid hp9
              have HMF := Lib.hid (HM2.out.gs (by repeat (first | with_reducible exact HG24.out | with_reducible refine Gs.alloc ?_ _)))
              have HBF := Lib.hid (HB1.out.trans (Gs.to_below (s := s) (Gs.trans HG2.out (by repeat (first | with_reducible exact HG24.out | with_reducible refine Gs.alloc ?_ _))) hs1 hz1))
              clear hr9 hp9
              go_wp2
              go_ret2
              exact ⟨A2, n2, c2, rows, _, _, _, _, rfl, HN2.out, hc2, hn5, HM2.out.rows, HMF.out.rdM, HP9.out, hpd9, hp10, HR9.out, HBF.out⟩
          · have hk1 : (2 : Int) ≤ k := by omega
            have hmx : (0 : Int) < (k : Int) - 1 := by omega
            have hpp : ((k : Int) - 1).toNat = k - 1 := by omega
            have hp0 : (0 : Int) ≤ (k : Int) - 1 := by omega
            have hpc : (k : Int) - 1 ≤ cd := by omega
            have htl : (ds.take (k - 1)).length = k - 1 := by rw [List.length_take, HL.out]; omega
            have hrt : Rd w21 Ad (ds.take (k - 1)) := by
              rcases HRD.out with h0 | ⟨b9, o9, e9, hc⟩
              · rw [h0]; exact .inl (by simp)
              · refine .inr ⟨b9, o9, e9, fun j hj => ?_⟩
                rw [htl] at hj
                rw [hc j (by rw [HL.out]; omega)]
                simp [List.getD_eq_getElem?_getD, List.getElem?_take, hj]
            obtain ⟨TK, hTK⟩ : ∃ TK, TK = ds.take (k - 1) := ⟨_, rfl⟩
            rw [← hTK] at hrt htl
            have HRT := Lib.hid hrt
            have HTL := Lib.hid htl
            clear hrt htl hTK
            rcases HRR.out with hA | ⟨gd, hA⟩
            · subst hA
              have hcz := HA0.out rfl
              exfalso
              omega
            · subst hA
              go_wp2_with fail
              refine (own_any (some ⟨gd, 0, none⟩) (k - 1) cd TK _ HTL.out (by omega) HRT.out (by intro e; cases e)).mono ?_
              rintro en w22 ⟨v9, rfl, hown, hb⟩
              have HS22 := Lib.hid (Src.low HS21.out hb lq21)
              have HG22 : Hid (Gs s w2 w22) := Gs.then HG21.out (hb.mono HG21.out.size)
              have HO22_0 := Lib.hid (OwnV.low hown hz21)
              have hz22 : w2.heap.size ≤ w22.heap.size := HG22.out.size
              have lq22 : s < w22.heap.size := HS22.out.lt
              clear hown hb
              go_wp2_with fail
              refine (pick_any s _ 3 3 [1000000, 1000001, (-1000001)] _ (by repeat (first | with_reducible exact HS22.out | with_reducible refine Src.alloc ?_ _)) rfl (by decide) (by decide) (Rd.new2 _ _ [1000000, 1000001, (-1000001)] (by first | (simp only [World.size_alloc]; done) | (go_size; done))) (fun b off e => by cases e; omega)).mono ?_
              rintro en w23 ⟨x2, rfl, x2m, hs, hg⟩
              have HS23 := Lib.hid hs
              have HG23 : Hid (Gs s w2 w23) := Gs.trans (by repeat (first | with_reducible exact HG22.out | with_reducible refine Gs.alloc ?_ _)) hg
              have HO23_0 : Hid (OwnV w23 w2.heap.size (v9) (TK)) := OwnV.gs (by repeat (first | with_reducible exact HO22_0.out | with_reducible refine OwnV.alloc ?_ _)) hg lq2
              have hz23 : w2.heap.size ≤ w23.heap.size := HG23.out.size
              have lq23 : s < w23.heap.size := HS23.out.lt
              clear hs hg
              go_wp2_with (at_builtin; refine app_int rfl _ _ rfl w2.heap.size (v9) (TK) rfl (OwnV.alloc (by repeat (first | with_reducible exact HO23_0.out | with_reducible refine OwnV.alloc ?_ _)) _) (x2) _ rfl (cell_new1 _ _) (by rw [HTL.out]; omega) (by simp only [World.size_alloc]; omega) ?_; intro g24 cap24 w24 hown hb)
              have HS24 := Lib.hid (Src.low (Src.alloc (by repeat (first | with_reducible exact HS23.out | with_reducible refine Src.alloc ?_ _)) _) hb lq2)
              have HG24 : Hid (Gs s w2 w24) := Gs.then (Gs.alloc (by repeat (first | with_reducible exact HG23.out | with_reducible refine Gs.alloc ?_ _)) _) hb
              have HO24_0 : Hid (OwnV w24 w2.heap.size (.slice (some ⟨g24, 0, none⟩) ((TK).length + 1) cap24) (TK ++ [x2])) := hown
              have hz24 : w2.heap.size ≤ w24.heap.size := HG24.out.size
              have lq24 : s < w24.heap.size := HS24.out.lt
              clear hown hb
              obtain ⟨B9, p9, d9, e9, hp9, hpd9, hr9, _⟩ := HO24_0.out.sl
              have hp10 : p9 ≤ 10 := by have := HL.out; (try have := HTL.out); (try simp only [List.length_append, List.length_singleton, List.length_take] at hp9); omega
              cases e9
              have HR9 := Lib.hid hr9
              have HP9 := Lib.hid hp9
              have HMF := Lib.hid (HM2.out.gs (by repeat (first | with_reducible exact HG24.out | with_reducible refine Gs.alloc ?_ _)))
              have HBF := Lib.hid (HB1.out.trans (Gs.to_below (s := s) (Gs.trans HG2.out (by repeat (first | with_reducible exact HG24.out | with_reducible refine Gs.alloc ?_ _))) hs1 hz1))
              clear hr9 hp9
              go_wp2
              go_ret2
              exact ⟨A2, n2, c2, rows, _, _, _, _, rfl, HN2.out, hc2, hn5, HM2.out.rows, HMF.out.rdM, HP9.out, hpd9, hp10, HR9.out, HBF.out⟩
        · have f1 : (z == 1) = false := by simpa using e1
          clear e1
          obtain ⟨B9, p9, d9, e9, hp9, hpd9, hr9, _⟩ := HO21_0.out.sl
          have hp10 : p9 ≤ 10 := by have := HL.out; (try have := HTL.out); (try simp only [List.length_append, List.length_singleton, List.length_take] at hp9); omega
          cases e9
          have HR9 := Lib.hid hr9
          have HP9 := Lib.hid hp9
          have HMF := Lib.hid (HM2.out.gs (by repeat (first | with_reducible exact HG21.out | with_reducible refine Gs.alloc ?_ _)))
          have HBF := Lib.hid (HB1.out.trans (Gs.to_below (s := s) (Gs.trans HG2.out (by repeat (first | with_reducible exact HG21.out | with_reducible refine Gs.alloc ?_ _))) hs1 hz1))
          clear hr9 hp9
          go_wp2
          go_ret2
          exact ⟨A2, n2, c2, rows, _, _, _, _, rfl, HN2.out, hc2, hn5, HM2.out.rows, HMF.out.rdM, HP9.out, hpd9, hp10, HR9.out, HBF.out⟩
end Go.Proofs.Ytfmhbphbgdijpaa
