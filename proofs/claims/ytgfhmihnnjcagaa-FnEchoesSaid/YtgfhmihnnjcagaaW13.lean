/- walks: EchoesOf, the reference -/
import Derived.Test.YtgfhmihnnjcagaaW12
import Derived.RegionTactic
import Derived.BigRegion
set_option linter.unusedVariables false
set_option linter.unusedSimpArgs false
namespace Go.Proofs.Ytgfhmihnnjcagaa
open Go.RowKit

set_option maxHeartbeats 16000000 in
theorem sEch_any (A : Option Addr) (n c : Nat) (ps : List Int) (B : Option Addr) (m d : Nat) (ds : List Int) (G : Option Addr) (k e : Nat) (gs : List Int) (L : Int) (w : World) (hn : ps.length = n) (hnc : n ≤ c) (hm : n ≤ 1048576) (hr : Rd w A ps) (hn2 : ds.length = m) (hnc2 : m ≤ d) (hm2 : m ≤ 1048576) (hr2 : Rd w B ds) (hn3 : gs.length = k) (hnc3 : k ≤ e) (hm3 : k ≤ 1048576) (hr3 : Rd w G gs) :
    Calls Try.prog 39 #[.slice A n c, .slice B m d, .slice G k e, .int .i64 L] w fun en w9 => ∃ A9 c9, en = .returned (.tuple #[.slice A9 (ecVal ps ds gs L).length c9, .int .i64 (ecCode ps ds gs L)]) ∧ OwnR w9 w.heap.size A9 (ecVal ps ds gs L).length c9 (ecVal ps ds gs L) ∧ Below w.heap.size w w9 := by
  rcases Bool.eq_false_or_eq_true (isSig ps) with h | h
  · have hs := isSig_iff.1 h
    have hl : n ≤ 400 := by rw [← hn]; exact hs.1
    have HS0 := Lib.hid hs.2
    clear hs
    rcases Bool.eq_false_or_eq_true (inR L 0 400) with g1 | g1
    · have l1 := inR_iff.1 g1
      by_cases g2 : m ≤ 200
      · have b2 : decide ((m : Int) ≤ 200) = true := decide_eq_true (by omega)
        by_cases g3 : k = m
        · have b3 : ((k : Int) == m) = true := by simp; omega
          have b4 : ((k : Int) != m) = false := by simp; omega
          have b5 : decide ((k : Int) ≤ 200) = true := decide_eq_true (by omega)
          rcases Bool.eq_false_or_eq_true (allIn (-1000) 1000 gs) with g4 | g4
          · rcases Bool.eq_false_or_eq_true (allIn 0 (L - n) ds) with g5 | g5
            · have HV : Hid (echOk ps ds gs L = true) := by show _ = _; simp [echOk, hn, hn2, hn3, g1, g2, g3, g4, g5]
              have G3 := Lib.hid g3; clear g3
              have HO := Lib.hid (echOk_bd HV.out)
              have HSP := HS0
              have h2 := HV
              obtain ⟨l, rfl⟩ : ∃ l : Nat, L = l := ⟨L.toNat, by omega⟩
              have hl4 : l ≤ 400 := by omega
              have hmk := mk_ints l (by omega)
              go_enter Try.func39, Try.ntmps39
              go_wp2_with (first | (go_at_call 85; refine (sSig_any _ _ _ _ _ (by assumption) (by assumption) (by omega) (by first | assumption | exact Rd.drewN (by assumption) _ | exact Rd.drewN (Rd.drewN (by assumption) _) _)).mono ?_; rintro en w1 ⟨rfl, rfl⟩) | (go_at_call 74; refine (l01In_any _ _ _ _).mono ?_; rintro en w1 ⟨rfl, rfl⟩) | (go_at_call 95; refine (l01Within_any _ _ _ _ _ _ _ _ (by assumption) (by omega) (by assumption)).mono ?_; rintro en w1 ⟨rfl, rfl⟩))
              have HN := Lib.hid hn; have HN2 := Lib.hid hn2; have HN3 := Lib.hid hn3
              clear hn hn2 hn3 b2 b3 b4 b5
              go_loopw [11, 12] (fun i _ wr => ∃ j : Nat, j ≤ m ∧ i = .int .i64 (j : Int) ∧ Hid (Cells wr w.heap.size 0 (echTo ps ds gs l j)) ∧ w.heap.size + 1 ≤ wr.heap.size ∧ Below w.heap.size w wr) (fun i _ _ => m - (intOf i).toNat)
              case atStart => exact ⟨0, Nat.zero_le _, rfl, zeros_cells w 2 l, by simp, by go_grown⟩
              case round =>
                obtain ⟨j, hj, rfl, HK, hsz, hbel⟩ := hrel
                obtain ⟨wo, rfl⟩ : ∃ wo : World, wo = wr := ⟨_, rfl⟩
                by_cases hlt : j < m
                · have hd := HO.out.2.2.2.2.2 j (by rw [HN2.out]; exact hlt)
                  have hg := HO.out.2.2.2.2.1.at j
                  have hkm : j < k := by have h1 := HO.out.2.2.2.1; rw [HN2.out, HN3.out] at h1; omega
                  have hbj := echTo_bd (L := l) (k := j) HSP.out HO.out.2.2.2.2.1 (fun i hi => by have h1 := HO.out.2.2.2.2.2 i (by rw [HN2.out]; omega); omega)
                  rcases hr2 with h0 | ⟨b2, o2, hB, hc2⟩
                  · exfalso; have h1 := HN2.out; rw [h0] at h1; simp at h1; omega
                  rcases hr3 with h0 | ⟨b3, o3, hG, hc3⟩
                  · exfalso; have h1 := HN3.out; rw [h0] at h1; simp at h1; omega
                  subst hB
                  subst hG
                  have hx0 := hc2 j (by rw [HN2.out]; exact hlt)
                  have hy0 := hc3 j (by rw [HN3.out]; exact hkm)
                  have lb2 := World.block_lt_of_cell? w _ hx0
                  have lb3 := World.block_lt_of_cell? w _ hy0
                  dsimp only at lb2 lb3
                  clear hc2 hc3
                  obtain ⟨dn, hdn⟩ : ∃ dn : Nat, ds.getD j 0 = (dn : Int) := ⟨(ds.getD j 0).toNat, by omega⟩
                  obtain ⟨gn, hgn⟩ : ∃ gn, gn = gs.getD j 0 := ⟨_, rfl⟩
                  rw [hdn] at hx0 hd
                  rw [← hgn] at hy0 hg
                  have hpl := HN.out
                  have HE : Hid (echTo ps ds gs l (j + 1) = addTo (echTo ps ds gs l j) ps dn gn n) := by
                    show _ = _; simp only [echTo]; rw [hdn, ← hgn, hpl]; rfl
                  have hdp : dn + n ≤ l := by omega
                  have HBJ : Hid (Bd (1000000 * j) (echTo ps ds gs l j)) := hbj
                  have hi0 : (j : Int) < m := by omega
                  have hi1 : (j : Int) < k := by omega
                  have hj0 : (0 : Int) ≤ j := by omega
                  clear hdn hgn hpl hbj
                  go_wp2
                  go_loopw [12] (fun q w4 => ∃ t : Nat, t ≤ n ∧ q = .int .i64 (t : Int) ∧ Hid (Cells w4 w.heap.size 0 (addTo (echTo ps ds gs l j) ps dn gn t)) ∧ w.heap.size + 1 ≤ w4.heap.size ∧ Below w.heap.size w w4) (fun q _ => n - (intOf q).toNat)
                  case atStart => exact ⟨0, Nat.zero_le _, rfl, HK, hsz, hbel⟩
                  case round =>
                    obtain ⟨t, ht, rfl, HT, hs4, hb4⟩ := hrel
                    by_cases hlt2 : t < n
                    · rcases hr with h0 | ⟨b1, o1, hA, hc1⟩
                      · exfalso; have h1 := HN.out; rw [h0] at h1; simp at h1; omega
                      subst hA
                      have hz0 := hc1 t (by rw [HN.out]; exact hlt2)
                      have lb1 := World.block_lt_of_cell? w _ hz0
                      dsimp only at lb1
                      have hx := (hb4.cell (World.block_lt_of_cell? w _ hx0)).trans hx0
                      have hy := (hb4.cell (World.block_lt_of_cell? w _ hy0)).trans hy0
                      have hz := (hb4.cell (World.block_lt_of_cell? w _ hz0)).trans hz0
                      have zb := HSP.out.at t
                      obtain ⟨x, hxx⟩ : ∃ x, x = ps.getD t 0 := ⟨_, rfl⟩
                      rw [← hxx] at hz zb
                      have hlen : dn + t < (addTo (echTo ps ds gs l j) ps dn gn t).length := by rw [addTo_len, echTo_len]; omega
                      have hq := HT.out.1 (dn + t) hlen
                      have hf := HT.out.2 (dn + t) hlen
                      simp only [Nat.zero_add] at hq hf
                      have yb := addTo_bd (ys := echTo ps ds gs l j) (ps := ps) (d := dn) (g := gn) (G := 1000) (j := t) (by rw [echTo_len]; omega) HBJ.out HSP.out hg (dn + t)
                      obtain ⟨y, hyy⟩ : ∃ y, y = (addTo (echTo ps ds gs l j) ps dn gn t).getD (dn + t) 0 := ⟨_, rfl⟩
                      rw [← hyy] at hq yb
                      have HT2 : Hid (Cells (wr.setCell ⟨w.heap.size, dn + t, none⟩ (.int .i64 (y + gn * x))) w.heap.size 0 (addTo (echTo ps ds gs l j) ps dn gn (t + 1))) := by
                        show Cells _ _ _ _
                        have h2 := HT.out.put (dn + t) (y + gn * x) hlen
                        rw [Nat.zero_add] at h2
                        rw [hyy, hxx] at h2 ⊢
                        exact h2
                      have xy := mul_bd (a := gn) (b := x) (A := 1000) (B := 1000) hg zb
                      clear hyy hxx hlen hz0 hc1
                      have n1 : ¬ b1 = w.heap.size := by omega
                      have n2 : ¬ b2 = w.heap.size := by omega
                      have n3 : ¬ b3 = w.heap.size := by omega
                      have m1 : ¬ w.heap.size = b1 := by omega
                      have m2 : ¬ w.heap.size = b2 := by omega
                      have m3 : ¬ w.heap.size = b3 := by omega
                      have hi2 : (0 : Int) ≤ (dn : Int) + t := by omega
                      have hi3 : (dn : Int) + t < l := by omega
                      have hi4 : (t : Int) < n := by omega
                      have hi5 : (0 : Int) ≤ t := by omega
                      have e1 : IntKind.i64.wrap ((dn : Int) + t) = (dn : Int) + t := IntWalk.i64_in _ (by omega)
                      have e2 : IntKind.i64.wrap (gn * x) = gn * x := IntWalk.i64_in _ (by omega)
                      have e3 : IntKind.i64.wrap (y + gn * x) = y + gn * x := IntWalk.i64_in _ (by omega)
                      have e4 : ((dn : Int) + t).toNat = dn + t := by omega
                      go_wp2
                      go_region
                      all_goals go_wp2
                      all_goals clear e1 e2 e3 e4
                      go_roundw
                      case rel => exact ⟨t + 1, by omega, by go_num, HT2, by (try simp only [World.size_alloc, World.size_drew, World.size_setCell]); exact hs4, Below.drew (hb4.setCell (p := ⟨w.heap.size, dn + t, none⟩) (Nat.le_refl _) _)⟩
                      case measure => simp [intOf]; omega
                    · obtain rfl : t = n := by omega
                      have HC2 : Hid (Cells wr w.heap.size 0 (echTo ps ds gs l (j + 1))) := by show Cells _ _ _ _; rw [HE.out]; exact HT.out
                      go_wp2
                      go_roundw
                      case rel => exact ⟨j + 1, by omega, by go_num, HC2, hs4, hb4⟩
                      case measure => simp [intOf]; omega
                · obtain rfl : j = m := by omega
                  have HE : Hid (echTo ps ds gs l j = ech ps ds gs l) := by show _ = _; unfold ech; rw [HN2.out]; rfl
                  have hc9 := HK.out
                  rw [HE.out] at hc9
                  have hlen : (ech ps ds gs l).length = l := by unfold ech; rw [echTo_len]; rfl
                  have HL := Lib.hid hlen
                  have hrd := hc9.rd
                  have HC9 := Lib.hid hc9
                  clear hc9
                  go_wp2_with fail
                  refine (sSig_any _ l l (ech ps ds gs l) _ hlen (Nat.le_refl _) (by omega) hrd).mono ?_
                  rintro en wz ⟨rfl, rfl⟩
                  clear hlen
                  rcases Bool.eq_false_or_eq_true (isSig (ech ps ds gs l)) with h3 | h3
                  · have HV := Lib.hid (ec_yes h h2.out h3)
                    go_wp2
                    go_ret2
                    exact ⟨some ⟨w.heap.size, 0, none⟩, l, by rw [HV.out.1, HV.out.2, HL.out]; rfl, by rw [HV.out.1, HL.out]; exact OwnR.of_cells HL.out (by omega) HC9.out, hbel⟩
                  · have HV := Lib.hid (ec_no3 h h2.out h3)
                    go_wp2
                    go_ret2
                    exact ⟨none, 0, by rw [HV.out.1, HV.out.2]; rfl, by rw [HV.out.1]; exact ⟨rfl, Nat.le_refl _, .inl ⟨rfl, rfl⟩⟩, hbel⟩
            · have HV : Hid (echOk ps ds gs L = false) := by show _ = _; simp [echOk, hn, hn2, hn3, g1, g2, g3, g4, g5]
              have G3 := Lib.hid g3; clear g3
              have HV := Lib.hid (ec_no2 h HV.out)
              go_enter Try.func39, Try.ntmps39
              go_wp2_with (first | (go_at_call 85; refine (sSig_any _ _ _ _ _ (by assumption) (by assumption) (by omega) (by first | assumption | exact Rd.drewN (by assumption) _ | exact Rd.drewN (Rd.drewN (by assumption) _) _)).mono ?_; rintro en w1 ⟨rfl, rfl⟩) | (go_at_call 74; refine (l01In_any _ _ _ _).mono ?_; rintro en w1 ⟨rfl, rfl⟩) | (go_at_call 95; refine (l01Within_any _ _ _ _ _ _ _ _ (by assumption) (by omega) (by assumption)).mono ?_; rintro en w1 ⟨rfl, rfl⟩))
              go_ret2
              exact ⟨none, 0, by rw [HV.out.1, HV.out.2]; rfl, by rw [HV.out.1]; exact ⟨rfl, Nat.le_refl _, .inl ⟨rfl, rfl⟩⟩, by go_grown⟩
          · have HV : Hid (echOk ps ds gs L = false) := by show _ = _; simp [echOk, hn, hn2, hn3, g1, g2, g3, g4]
            have G3 := Lib.hid g3; clear g3
            rcases Bool.eq_false_or_eq_true (allIn 0 (L - n) ds) with g5 | g5
            · have HV := Lib.hid (ec_no2 h HV.out)
              go_enter Try.func39, Try.ntmps39
              go_wp2_with (first | (go_at_call 85; refine (sSig_any _ _ _ _ _ (by assumption) (by assumption) (by omega) (by first | assumption | exact Rd.drewN (by assumption) _ | exact Rd.drewN (Rd.drewN (by assumption) _) _)).mono ?_; rintro en w1 ⟨rfl, rfl⟩) | (go_at_call 74; refine (l01In_any _ _ _ _).mono ?_; rintro en w1 ⟨rfl, rfl⟩) | (go_at_call 95; refine (l01Within_any _ _ _ _ _ _ _ _ (by assumption) (by omega) (by assumption)).mono ?_; rintro en w1 ⟨rfl, rfl⟩))
              go_ret2
              exact ⟨none, 0, by rw [HV.out.1, HV.out.2]; rfl, by rw [HV.out.1]; exact ⟨rfl, Nat.le_refl _, .inl ⟨rfl, rfl⟩⟩, by go_grown⟩
            · have HV := Lib.hid (ec_no2 h HV.out)
              go_enter Try.func39, Try.ntmps39
              go_wp2_with (first | (go_at_call 85; refine (sSig_any _ _ _ _ _ (by assumption) (by assumption) (by omega) (by first | assumption | exact Rd.drewN (by assumption) _ | exact Rd.drewN (Rd.drewN (by assumption) _) _)).mono ?_; rintro en w1 ⟨rfl, rfl⟩) | (go_at_call 74; refine (l01In_any _ _ _ _).mono ?_; rintro en w1 ⟨rfl, rfl⟩) | (go_at_call 95; refine (l01Within_any _ _ _ _ _ _ _ _ (by assumption) (by omega) (by assumption)).mono ?_; rintro en w1 ⟨rfl, rfl⟩))
              go_ret2
              exact ⟨none, 0, by rw [HV.out.1, HV.out.2]; rfl, by rw [HV.out.1]; exact ⟨rfl, Nat.le_refl _, .inl ⟨rfl, rfl⟩⟩, by go_grown⟩
        · have b3 : ((k : Int) == m) = false := by simp; omega
          have b4 : ((k : Int) != m) = true := by simp; omega
          have HV : Hid (echOk ps ds gs L = false) := by show _ = _; simp [echOk, hn, hn2, hn3, g1, g2, g3]
          have HV := Lib.hid (ec_no2 h HV.out)
          go_enter Try.func39, Try.ntmps39
          go_wp2_with (first | (go_at_call 85; refine (sSig_any _ _ _ _ _ (by assumption) (by assumption) (by omega) (by first | assumption | exact Rd.drewN (by assumption) _ | exact Rd.drewN (Rd.drewN (by assumption) _) _)).mono ?_; rintro en w1 ⟨rfl, rfl⟩) | (go_at_call 74; refine (l01In_any _ _ _ _).mono ?_; rintro en w1 ⟨rfl, rfl⟩) | (go_at_call 95; refine (l01Within_any _ _ _ _ _ _ _ _ (by assumption) (by omega) (by assumption)).mono ?_; rintro en w1 ⟨rfl, rfl⟩))
          go_ret2
          exact ⟨none, 0, by rw [HV.out.1, HV.out.2]; rfl, by rw [HV.out.1]; exact ⟨rfl, Nat.le_refl _, .inl ⟨rfl, rfl⟩⟩, by go_grown⟩
      · have b2 : decide ((m : Int) ≤ 200) = false := decide_eq_false (by omega)
        have b6 : (200 : Int) < m := by omega
        have HV : Hid (echOk ps ds gs L = false) := by show _ = _; simp [echOk, hn, hn2, hn3, g1, g2]
        have HV := Lib.hid (ec_no2 h HV.out)
        go_enter Try.func39, Try.ntmps39
        go_wp2_with (first | (go_at_call 85; refine (sSig_any _ _ _ _ _ (by assumption) (by assumption) (by omega) (by first | assumption | exact Rd.drewN (by assumption) _ | exact Rd.drewN (Rd.drewN (by assumption) _) _)).mono ?_; rintro en w1 ⟨rfl, rfl⟩) | (go_at_call 74; refine (l01In_any _ _ _ _).mono ?_; rintro en w1 ⟨rfl, rfl⟩) | (go_at_call 95; refine (l01Within_any _ _ _ _ _ _ _ _ (by assumption) (by omega) (by assumption)).mono ?_; rintro en w1 ⟨rfl, rfl⟩))
        go_ret2
        exact ⟨none, 0, by rw [HV.out.1, HV.out.2]; rfl, by rw [HV.out.1]; exact ⟨rfl, Nat.le_refl _, .inl ⟨rfl, rfl⟩⟩, by go_grown⟩
    · have HV : Hid (echOk ps ds gs L = false) := by show _ = _; simp [echOk, hn, hn2, hn3, g1]
      have HV := Lib.hid (ec_no2 h HV.out)
      go_enter Try.func39, Try.ntmps39
      go_wp2_with (first | (go_at_call 85; refine (sSig_any _ _ _ _ _ (by assumption) (by assumption) (by omega) (by first | assumption | exact Rd.drewN (by assumption) _ | exact Rd.drewN (Rd.drewN (by assumption) _) _)).mono ?_; rintro en w1 ⟨rfl, rfl⟩) | (go_at_call 74; refine (l01In_any _ _ _ _).mono ?_; rintro en w1 ⟨rfl, rfl⟩) | (go_at_call 95; refine (l01Within_any _ _ _ _ _ _ _ _ (by assumption) (by omega) (by assumption)).mono ?_; rintro en w1 ⟨rfl, rfl⟩))
      go_ret2
      exact ⟨none, 0, by rw [HV.out.1, HV.out.2]; rfl, by rw [HV.out.1]; exact ⟨rfl, Nat.le_refl _, .inl ⟨rfl, rfl⟩⟩, by go_grown⟩
  · have HV := Lib.hid (ec_no1 (ds := ds) (gs := gs) (L := L) h)
    go_enter Try.func39, Try.ntmps39
    go_wp2_with (first | (go_at_call 85; refine (sSig_any _ _ _ _ _ (by assumption) (by assumption) (by omega) (by first | assumption | exact Rd.drewN (by assumption) _ | exact Rd.drewN (Rd.drewN (by assumption) _) _)).mono ?_; rintro en w1 ⟨rfl, rfl⟩) | (go_at_call 74; refine (l01In_any _ _ _ _).mono ?_; rintro en w1 ⟨rfl, rfl⟩) | (go_at_call 95; refine (l01Within_any _ _ _ _ _ _ _ _ (by assumption) (by omega) (by assumption)).mono ?_; rintro en w1 ⟨rfl, rfl⟩))
    go_ret2
    exact ⟨none, 0, by rw [HV.out.1, HV.out.2]; rfl, by rw [HV.out.1]; exact ⟨rfl, Nat.le_refl _, .inl ⟨rfl, rfl⟩⟩, by go_grown⟩
end Go.Proofs.Ytgfhmihnnjcagaa
