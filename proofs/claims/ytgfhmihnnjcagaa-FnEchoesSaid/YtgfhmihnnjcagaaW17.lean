/- walks: FindEchoes, the reference -/
import Derived.Test.YtgfhmihnnjcagaaPlainFE
import Derived.Test.YtgfhmihnnjcagaaTrip
import Derived.Test.YtgfhmihnnjcagaaW10
import Derived.Test.YtgfhmihnnjcagaaW13
import Derived.Test.YtgfhmihnnjcagaaW6
import Derived.RegionTactic
import Derived.BigRegion
set_option linter.unusedVariables false
set_option linter.unusedSimpArgs false
namespace Go.Proofs.Ytgfhmihnnjcagaa
open Go.RowKit

theorem Trip.drewN {w : World} {B g0 : Nat} {ys ds gs : List Int} {v u : Value} (h : Trip w B g0 ys v ds u gs) (m : Nat) : Trip (w.drewN m) B g0 ys v ds u gs := h
theorem Trip.put {w : World} {B g0 k : Nat} {ys ds gs : List Int} {v u : Value} {x : Int} (h : Trip w B g0 ys v ds u gs) (hk : k < ys.length) : Trip (w.setCell ⟨g0, k, none⟩ (.int .i64 x)) B g0 (ys.set k x) v ds u gs := by
  have h2 := h.1.put k x hk
  rw [Nat.zero_add] at h2
  exact h.row h2 (grown_set (World.grownBy.refl _ _))

set_option maxRecDepth 100000 in
set_option maxHeartbeats 8000000 in
theorem sFind_any (A : Option Addr) (n c : Nat) (xs : List Int) (B : Option Addr) (p d : Nat) (ps : List Int) (t m : Int) (w : World) (hn : xs.length = n) (hnc : n ≤ c) (hm : n ≤ 1048576) (hr : Rd w A xs) (hp : ps.length = p) (hpd : p ≤ d) (hm2 : p ≤ 1048576) (hr2 : Rd w B ps) :
    Calls Try.prog 65 #[.slice A n c, .slice B p d, .int .i64 t, .int .i64 m] w fun en w9 => ∃ A0 c0 A1 c1, en = .returned (.tuple #[.slice A0 (feAll xs ps t m).1.length c0, .slice A1 (feAll xs ps t m).2.1.length c1, .int .i64 (feAll xs ps t m).2.2]) ∧ OwnR w9 w.heap.size A0 (feAll xs ps t m).1.length c0 (feAll xs ps t m).1 ∧ OwnR w9 w.heap.size A1 (feAll xs ps t m).2.1.length c1 (feAll xs ps t m).2.1 ∧ Apart A0 A1 ∧ Below w.heap.size w w9 := by
  by_cases h : mCode xs ps = 0
  · have hne : (mCode xs ps != 0) = false := by simp [h]
    have hne2 : (mCode xs ps == 0) = true := by simp [h]
    obtain ⟨g1, g2, l1, l2⟩ := mCode_zero h
    have s1 := isSig_iff.1 g1
    have s2 := isSig_iff.1 g2
    have HSX := Lib.hid s1.2
    have HSP := Lib.hid s2.2
    have hl := s1.1
    clear s1 s2 g1 g2
    rw [hn] at hl l2
    rw [hp] at l1 l2
    rcases Bool.eq_false_or_eq_true (inR t 1 1000000000000) with e1 | e1
    · have t1 := inR_iff.1 e1
      rcases Bool.eq_false_or_eq_true (inR m 0 10) with e2 | e2
      · have m1 := inR_iff.1 e2
        obtain ⟨M, rfl⟩ : ∃ M : Nat, m = M := ⟨m.toNat, by omega⟩
        have HV : Hid (feAll xs ps t (M : Int) = feRun ps t M xs [] []) := by show _ = _; simp [feAll, feCode0, h, feOk, e1, e2]
        obtain ⟨F, hF⟩ : ∃ F, F = feAll xs ps t (M : Int) := ⟨_, rfl⟩
        rw [← hF] at HV ⊢
        clear hF
        have hA0 : A = none → n = 0 ∧ c = 0 := fun e => by
          exfalso
          rcases hr with h0 | ⟨b, off, hA, _⟩
          · rw [h0] at hn; simp at hn; omega
          · rw [e] at hA; cases hA
        have hpb : ∃ b2 o2, B = some ⟨b2, o2, none⟩ ∧ b2 < w.heap.size ∧ ∀ k, k < ps.length → w.cell? ⟨b2, o2 + k, none⟩ = some (.int .i64 (ps.getD k 0)) := by
          rcases hr2 with h0 | ⟨b2, o2, hB2, hc2⟩
          · exfalso; rw [h0] at hp; simp at hp; omega
          · exact ⟨b2, o2, hB2, World.block_lt_of_cell? w _ (hc2 0 (by omega)), hc2⟩
        obtain ⟨b2, o2, hB2, hb2l, hpc⟩ := hpb
        have HPC := Lib.hid hpc; clear hpc
        subst hB2
        go_enter Try.func65, Try.ntmps65
        go_wp2_with (first | (go_at_call 100; refine (sCode_any _ _ _ _ _ _ _ _ _ (by assumption) (by assumption) (by omega) (by first | assumption | exact Rd.drewN (by assumption) _ | exact Rd.drewN (Rd.drewN (by assumption) _) _) (by assumption) (by assumption) (by omega) (by first | assumption | exact Rd.drewN (by assumption) _ | exact Rd.drewN (Rd.drewN (by assumption) _) _)).mono ?_; rintro en w1 ⟨rfl, rfl⟩) | (go_at_call 74; refine (l01In_any _ _ _ _).mono ?_; rintro en w1 ⟨rfl, rfl⟩))
        refine (own_any A n c xs _ hn (by omega) hr hA0).mono ?_
        rintro en w1 ⟨v0, rfl, hown0, hb1⟩
        obtain ⟨A9, c9, rfl, hR⟩ := hown0.R
        rcases hR.2.2 with ⟨_, h0⟩ | ⟨g0, rfl, hB0, hg0, hc0⟩
        · exfalso; omega
        have hnc9 := hR.2.1
        rw [hn] at hnc9 ⊢
        have HT0 : Hid (Trip ((w1.alloc (.cells #[] 2)).alloc (.cells #[] 2)) w.heap.size g0 xs (.slice (some ⟨w1.heap.size, 0, none⟩) 0 0) [] (.slice (some ⟨w1.heap.size + 1, 0, none⟩) 0 0) []) := by
          have hz := hb1.size
          refine ⟨(hc0.below (Below.alloc (Below.refl _ _) (Nat.le_refl _) _)).below (Below.alloc (Below.refl _ _) (Nat.le_refl _) _), (OwnV.empty w1 _ hz).alloc _, ?_, ?_, ?_, ?_, ?_⟩
          · have h2 := OwnV.empty (w1.alloc (.cells #[] 2)) w.heap.size (by simp only [World.size_alloc]; omega)
            simp only [World.size_alloc] at h2; exact h2
          · intro e; injection e with e; have e : w1.heap.size = g0 := e; omega
          · intro e; injection e with e; have e : w1.heap.size + 1 = g0 := e; omega
          · intro q h1 h2; injection h1 with h1; injection h2 with h2; have h1 : w1.heap.size = q := h1; have h2 : w1.heap.size + 1 = q := h2; omega
          · simp only [World.size_alloc]; omega
        clear hR hown0 hc0 hA0 hg0
        have HN := Lib.hid hn; have HPN := Lib.hid hp
        clear hn hp
        have hEb := corr_bd HSP.out (by rw [HPN.out]; omega) 0
        go_wp2
        go_loopw [13, 14, 15] (fun v u i wr => ∃ (k : Nat) (ys ds gs : List Int), k ≤ M ∧ i = .int .i64 (k : Int) ∧ Hid (feRun ps t (M - k) ys ds gs = F) ∧ Hid (ys.length = n ∧ Sig ys) ∧ Hid (ds.length ≤ k ∧ gs.length ≤ k) ∧ Hid (Trip wr w.heap.size g0 ys v ds u gs) ∧ Below w.heap.size w wr) (fun _ _ i _ => M - (intOf i).toNat)
        case atStart => exact ⟨0, xs, [], [], Nat.zero_le _, rfl, HV.out.symm, ⟨HN.out, HSX.out⟩, ⟨Nat.le_refl _, Nat.le_refl _⟩, HT0, Below.alloc (Below.alloc hb1 hb1.size _) (by have := hb1.size; simp only [World.size_alloc]; omega) _⟩
        case round =>
          obtain ⟨k, ys, ds, gs, hk, rfl, HRU, HY, HD, HT, hbel⟩ := hrel
          obtain ⟨wo, rfl⟩ : ∃ wo : World, wo = wr := ⟨_, rfl⟩
          clear HT0 hb1
          by_cases hlt : k < M
          · have hki : (k : Int) < M := by omega
            have HYS : Hid (Sig ys) := HY.out.2
            have hyl := HY.out.1
            have hrp := hr2.below hbel
            have hz1 := hbel.size
            go_wp2_with fail
            refine (sMatch_any (some ⟨g0, 0, none⟩) n c9 ys (some ⟨b2, o2, none⟩) p d ps _ hyl HPN.out (by omega) l1 l2 HYS HSP HT.out.1.rd hrp).mono ?_
            rintro en w3 ⟨A5, c5, rfl, hR5, hb3⟩
            have HML : Hid ((mts ys ps).length = n - p + 1) := by show _ = _; rw [mts_len, hyl, HPN.out]
            have HVL : Hid (Val (mts ys ps)) := mts_val HYS.out HSP.out (by rw [HPN.out]; omega)
            go_wp2_with fail
            refine (sPeak_any A5 (mts ys ps).length c5 (mts ys ps) _ rfl (by rw [HML.out]; omega) HVL (by rw [HML.out]; omega) hR5.rd).mono ?_
            rintro en w4 ⟨rfl, m2, hw4⟩
            rcases hR5.2.2 with ⟨_, h0⟩ | ⟨g5, rfl, hB5, hg5, hc5⟩
            · exfalso; have := HML.out; omega
            have hat := feAt_lt (xs := ys) (ps := ps) (by rw [HPN.out]; exact l1) (by rw [HPN.out, hyl]; exact l2)
            rw [HPN.out, hyl] at hat
            have hx0 : w4.cell? ⟨g5, 0 + feAt ys ps, none⟩ = some (.int .i64 (feV ys ps)) := by rw [hw4]; exact hc5.1 (feAt ys ps) (by rw [HML.out]; omega)
            rw [Nat.zero_add] at hx0
            have hvb := feV_bd HYS.out HSP.out (by rw [HPN.out]; omega)
            have HAT : Hid (((peakIx (mts ys ps) : Nat) : Int) = (feAt ys ps : Int)) := rfl
            rw [HAT.out]
            have HGD : Hid (near (feV ys ps) (corr ps 0) = feG ys ps) := rfl
            have HEN : t ≤ iabs (feV ys ps) → 0 < corr ps 0 := fun h => fe_energy t1.1 h
            have HST := Lib.hid (feRun_stop (ps := ps) (xs := ys) (ds := ds) (gs := gs) (t := t) (j := M - k))
            have HNX : Hid (addTo ys ps (feAt ys ps) (-feG ys ps) p = feNext ys ps) := by show _ = _; unfold feNext; rw [HPN.out]
            have hat1 : (feAt ys ps : Int) < ((mts ys ps).length : Int) := by rw [HML.out]; omega
            rw [HML.out] at hat1 ⊢
            obtain ⟨a, ha⟩ : ∃ a, a = feAt ys ps := ⟨_, rfl⟩
            obtain ⟨x, hx⟩ : ∃ x, x = feV ys ps := ⟨_, rfl⟩
            rw [← ha] at hat hx0 HNX hat1 ⊢
            rw [← hx] at hx0 hvb HGD HEN HST
            have HA := Lib.hid ha; have HX := Lib.hid hx; clear ha hx
            have hxa := iabs_bd hvb
            have hT3 := HT.out.below hb3
            have HT3 : Hid (Trip w4 w.heap.size g0 ys u13 ds u14 gs) := by rw [hw4]; exact hT3.drewN m2
            have hb4 : Below w.heap.size w w4 := by rw [hw4]; exact below_drewN (hbel.trans (hb3.mono hz1)) m2
            have hz4 := hb4.size
            clear hR5 hc5 hT3 hb3 hw4 hrp
            rcases Int.lt_or_le (iabs x) t with c1 | c1
            · have HE : Hid (F = (ds, gs, 0)) := by show _ = _; rw [← HRU.out]; exact HST.out (.inl c1)
              obtain ⟨A0, c0, A1, c1, e0, e1, hR0, hR1, hap⟩ := HT3.out.out
              have HR0 := Lib.hid hR0; have HR1 := Lib.hid hR1; have HAP := Lib.hid hap; have HBL := Lib.hid hb4
              subst e0; subst e1
              clear hR0 hR1 hap
              go_wp2_with (first | (go_at_call 75; refine (sAbs_any _ _ (by omega) (by omega)).mono ?_; rintro en w1 ⟨rfl, rfl⟩))
              go_ret3
              exact ⟨A0, c0, A1, c1, by rw [HE.out]; rfl, by rw [HE.out]; exact HR0.out, by rw [HE.out]; exact HR1.out, HAP.out, HBL.out⟩
            · have hE0 := HEN c1
              have hgb := near_bd (a := x) (b := corr ps 0) (M := 400000000) hE0 hvb (by decide)
              have hxx : -1000000000000000000 ≤ x ∧ x ≤ 1000000000000000000 := by omega
              have hee : corr ps 0 ≤ 1000000000000000000 := by omega
              have hp := HPN.out
              have hp4 : p ≤ 400 := by omega
              have hrp4 := hr2.below hb4
              have l5 : g5 < w4.heap.size := World.block_lt_of_cell? _ _ hx0
              go_wp2_with (first | (go_at_call 75; refine (sAbs_any _ _ (by omega) (by omega)).mono ?_; rintro en w1 ⟨rfl, rfl⟩))
              go_quiet (first | (go_at_call 93; exact Calls.quiet_of (sCorr0_any _ _ _ _ _ (by assumption) (by omega) (by assumption) (by first | assumption | exact Rd.drewN (by assumption) _ | exact Rd.drewN (Rd.drewN (by assumption) _) _))) | (go_at_call 115; exact Calls.quiet_of_same ((sNear_any _ _ _ (by first | assumption | omega) (by first | assumption | omega) (by first | assumption | omega)).mono fun _ _ h => ⟨h.1, h.2.symm⟩)))
              clear hp
              have HT4 : Hid (Trip (w4.drewN nq) w.heap.size g0 ys u13 ds u14 gs) := HT3.out.drewN nq
              have hb5 : Below w.heap.size w (w4.drewN nq) := below_drewN hb4 nq
              obtain ⟨w5, hw5⟩ : ∃ w5, w5 = w4.drewN nq := ⟨_, rfl⟩
              rw [← hw5] at HT4 hb5 ⊢
              clear hw5 hx0 l5 hrp4 HT3 hb4 hz4
              by_cases c2 : near x (corr ps 0) = 0
              · have HE : Hid (F = (ds, gs, 0)) := by show _ = _; rw [← HRU.out]; exact HST.out (.inr (by rw [← HGD.out]; exact c2))
                have c3 : (near x (corr ps 0) == 0) = true := by simpa using c2
                obtain ⟨A0, c0, A1, c1, e0, e1, hR0, hR1, hap⟩ := HT4.out.out
                have HR0 := Lib.hid hR0; have HR1 := Lib.hid hR1; have HAP := Lib.hid hap; have HBL := Lib.hid hb5
                subst e0; subst e1
                clear hR0 hR1 hap
                go_wp2
                go_ret3
                exact ⟨A0, c0, A1, c1, by rw [HE.out]; rfl, by rw [HE.out]; exact HR0.out, by rw [HE.out]; exact HR1.out, HAP.out, HBL.out⟩
              · have c3 : (near x (corr ps 0) == 0) = false := by simpa using c2
                obtain ⟨gn, hgn⟩ : ∃ gn, gn = near x (corr ps 0) := ⟨_, rfl⟩
                rw [← hgn] at hgb c3 ⊢
                have HGN : Hid (gn = feG ys ps) := by show _ = _; rw [hgn]; exact HGD.out
                rw [← HGN.out] at HNX
                have HNO : Hid (¬ (iabs (feV ys ps) < t ∨ feG ys ps = 0)) := by
                  show ¬ _; rw [← HX.out, ← HGN.out, hgn]; rintro (h1 | h1)
                  · omega
                  · exact c2 h1
                have hdl := HD.out.1
                have hgl := HD.out.2
                clear HGD HEN HST c2 hgn
                go_wp2
                go_loopw [19] (fun q w6 => ∃ e : Nat, e ≤ p ∧ q = .int .i64 (e : Int) ∧ Hid (Trip w6 w.heap.size g0 (addTo ys ps a (-gn) e) u13 ds u14 gs) ∧ Below w.heap.size w w6) (fun q _ => p - (intOf q).toNat)
                case atStart => exact ⟨0, Nat.zero_le _, rfl, HT4, hb5⟩
                case round =>
                  obtain ⟨e, he, rfl, HTE, hbe⟩ := hrel
                  by_cases hlt2 : e < p
                  · have hz0 := later hbe (HPC.out e (by rw [HPN.out]; exact hlt2))
                    have zb := HSP.out.at e
                    obtain ⟨z, hzz⟩ : ∃ z, z = ps.getD e 0 := ⟨_, rfl⟩
                    rw [← hzz] at hz0 zb
                    have hlen : a + e < (addTo ys ps a (-gn) e).length := by rw [addTo_len, hyl]; omega
                    have hq := HTE.out.1.1 (a + e) hlen
                    have hf := HTE.out.1.2 (a + e) hlen
                    simp only [Nat.zero_add] at hq hf
                    have yb := addTo_bd (ys := ys) (ps := ps) (d := a) (g := -gn) (M := 1000) (G := 1000000000) (j := e) (by omega) (Bd.of (by omega) HYS.out) HSP.out (by omega) (a + e)
                    obtain ⟨y, hyy⟩ : ∃ y, y = (addTo ys ps a (-gn) e).getD (a + e) 0 := ⟨_, rfl⟩
                    rw [← hyy] at hq yb
                    have xy := mul_bd (a := gn) (b := z) (A := 1000000000) (B := 1000) (by omega) zb
                    have HT2 : Hid (Trip (wr.setCell ⟨g0, a + e, none⟩ (.int .i64 (y - gn * z))) w.heap.size g0 (addTo ys ps a (-gn) (e + 1)) u13 ds u14 gs) := by
                      show Trip _ _ _ _ _ _ _ _
                      have h2 := HTE.out.put (x := y - gn * z) hlen
                      simp only [addTo]
                      rw [← hyy, ← hzz, Int.neg_mul, ← Int.sub_eq_add_neg]
                      exact h2
                    have hs2 : Below w.heap.size w (wr.setCell ⟨g0, a + e, none⟩ (.int .i64 (y - gn * z))) := hbe.setCell (p := ⟨g0, a + e, none⟩) hB0 _
                    clear hyy hzz hlen
                    have n1 : ¬ b2 = g0 := by omega
                    have m1 : ¬ g0 = b2 := by omega
                    have hi2 : (0 : Int) ≤ (a : Int) + e := by omega
                    have hi3 : (a : Int) + e < n := by omega
                    have hi4 : (e : Int) < p := by omega
                    have hi5 : (0 : Int) ≤ e := by omega
                    have e1 : IntKind.i64.wrap ((a : Int) + e) = (a : Int) + e := IntWalk.i64_in _ (by omega)
                    have e2 : IntKind.i64.wrap (gn * z) = gn * z := IntWalk.i64_in _ (by omega)
                    have e3 : IntKind.i64.wrap (y - gn * z) = y - gn * z := IntWalk.i64_in _ (by omega)
                    have e4 : ((a : Int) + e).toNat = a + e := by omega
                    go_wp2
                    go_region
                    all_goals go_wp2
                    all_goals clear e1 e2 e3 e4
                    go_roundw
                    case rel => exact ⟨e + 1, by omega, by go_num, HT2, Below.drew hs2⟩
                    case measure => simp [intOf]; omega
                  · obtain rfl : e = p := by omega
                    have HT8 := HTE
                    rw [HNX.out] at HT8
                    have hnl : (feNext ys ps).length = n := by rw [feNext_len]; exact hyl
                    go_wp2_with fail
                    refine (sSig_any _ n c9 (feNext ys ps) _ hnl hnc9 (by omega) HT8.out.1.rd).mono ?_
                    rintro en w9 ⟨rfl, rfl⟩
                    have hz8 := hbe.size
                    rcases Bool.eq_false_or_eq_true (isSig (feNext ys ps)) with c4 | c4
                    · have HRN : Hid (feRun ps t (M - (k + 1)) (feNext ys ps) (ds ++ [(a : Int)]) (gs ++ [gn]) = F) := by
                        show _ = _
                        rw [← HRU.out, show M - k = M - (k + 1) + 1 by omega, feRun_go HNO.out c4, ← HA.out, ← HGN.out]
                      have HYN : Hid ((feNext ys ps).length = n ∧ Sig (feNext ys ps)) := ⟨hnl, (isSig_iff.1 c4).2⟩
                      have HDN : Hid ((ds ++ [(a : Int)]).length ≤ k + 1 ∧ (gs ++ [gn]).length ≤ k + 1) := by show _ ∧ _; simp; omega
                      go_wp2_with (first | (at_builtin; refine app_lies rfl _ _ rfl w.heap.size _ ds rfl (OwnV.alloc HT8.out.2.1 _) (a : Int) _ rfl (cell_new1 _ _) (by omega) (by simp only [World.size_alloc]; omega) ?_; intro g6 cap6 w6 hown6 hg6 hat6) | (at_builtin; refine app_lies rfl _ _ rfl w.heap.size _ gs rfl (OwnV.alloc (Trip.app HT8.out _ hown6 hg6 hat6).2.2.1 _) gn _ rfl (cell_new1 _ _) (by omega) (by have hq6 := hg6.size; simp only [World.size_alloc] at hq6 ⊢; omega) ?_; intro g7 cap7 w7 hown7 hg7 hat7))
                      have HT6 := Lib.hid (Trip.app HT8.out _ hown6 hg6 hat6)
                      have HT7 := Lib.hid (Trip.app HT6.out.swap _ hown7 hg7 hat7).swap
                      have hb6 := HT8.out.bel _ hbe hz8 hg6
                      have hb7 := HT6.out.swap.bel _ hb6 hb6.size hg7
                      clear hown6 hg6 hat6 hown7 hg7 hat7 hb6
                      go_roundw
                      case rel => exact ⟨k + 1, feNext ys ps, ds ++ [(a : Int)], gs ++ [gn], by omega, by go_num, HRN, HYN, HDN, HT7, hb7⟩
                      case measure => simp [intOf]; omega
                    · have HE : Hid (F = ([], [], 3)) := by
                        show _ = _
                        rw [← HRU.out, show M - k = M - (k + 1) + 1 by omega]; exact feRun_bad HNO.out c4
                      go_wp2
                      go_ret3
                      exact ⟨none, 0, none, 0, by rw [HE.out]; rfl, by rw [HE.out]; exact ⟨rfl, Nat.le_refl _, .inl ⟨rfl, rfl⟩⟩, by rw [HE.out]; exact ⟨rfl, Nat.le_refl _, .inl ⟨rfl, rfl⟩⟩, fun k h => (by cases h), hbe⟩
          · obtain rfl : k = M := by omega
            have HE : Hid (F = (ds, gs, 0)) := by show _ = _; rw [← HRU.out, Nat.sub_self]; rfl
            obtain ⟨A0, c0, A1, c1, e0, e1, hR0, hR1, hap⟩ := HT.out.out
            have HR0 := Lib.hid hR0; have HR1 := Lib.hid hR1; have HAP := Lib.hid hap; have HBL := Lib.hid hbel
            subst e0; subst e1
            clear hR0 hR1 hap
            go_wp2
            go_ret3
            exact ⟨A0, c0, A1, c1, by rw [HE.out]; rfl, by rw [HE.out]; exact HR0.out, by rw [HE.out]; exact HR1.out, HAP.out, HBL.out⟩
      · have HV : Hid (feAll xs ps t m = ([], [], 2)) := by show _ = _; simp [feAll, feCode0, h, feOk, e1, e2]
        go_enter Try.func65, Try.ntmps65
        go_wp2_with (first | (go_at_call 100; refine (sCode_any _ _ _ _ _ _ _ _ _ (by assumption) (by assumption) (by omega) (by first | assumption | exact Rd.drewN (by assumption) _ | exact Rd.drewN (Rd.drewN (by assumption) _) _) (by assumption) (by assumption) (by omega) (by first | assumption | exact Rd.drewN (by assumption) _ | exact Rd.drewN (Rd.drewN (by assumption) _) _)).mono ?_; rintro en w1 ⟨rfl, rfl⟩) | (go_at_call 74; refine (l01In_any _ _ _ _).mono ?_; rintro en w1 ⟨rfl, rfl⟩))
        go_ret3
        exact ⟨none, 0, none, 0, by rw [HV.out]; rfl, by rw [HV.out]; exact ⟨rfl, Nat.le_refl _, .inl ⟨rfl, rfl⟩⟩, by rw [HV.out]; exact ⟨rfl, Nat.le_refl _, .inl ⟨rfl, rfl⟩⟩, fun k h => (by cases h), by go_grown⟩
    · have HV : Hid (feAll xs ps t m = ([], [], 2)) := by show _ = _; simp [feAll, feCode0, h, feOk, e1]
      rcases Bool.eq_false_or_eq_true (inR m 0 10) with e2 | e2
      · go_enter Try.func65, Try.ntmps65
        go_wp2_with (first | (go_at_call 100; refine (sCode_any _ _ _ _ _ _ _ _ _ (by assumption) (by assumption) (by omega) (by first | assumption | exact Rd.drewN (by assumption) _ | exact Rd.drewN (Rd.drewN (by assumption) _) _) (by assumption) (by assumption) (by omega) (by first | assumption | exact Rd.drewN (by assumption) _ | exact Rd.drewN (Rd.drewN (by assumption) _) _)).mono ?_; rintro en w1 ⟨rfl, rfl⟩) | (go_at_call 74; refine (l01In_any _ _ _ _).mono ?_; rintro en w1 ⟨rfl, rfl⟩))
        go_ret3
        exact ⟨none, 0, none, 0, by rw [HV.out]; rfl, by rw [HV.out]; exact ⟨rfl, Nat.le_refl _, .inl ⟨rfl, rfl⟩⟩, by rw [HV.out]; exact ⟨rfl, Nat.le_refl _, .inl ⟨rfl, rfl⟩⟩, fun k h => (by cases h), by go_grown⟩
      · go_enter Try.func65, Try.ntmps65
        go_wp2_with (first | (go_at_call 100; refine (sCode_any _ _ _ _ _ _ _ _ _ (by assumption) (by assumption) (by omega) (by first | assumption | exact Rd.drewN (by assumption) _ | exact Rd.drewN (Rd.drewN (by assumption) _) _) (by assumption) (by assumption) (by omega) (by first | assumption | exact Rd.drewN (by assumption) _ | exact Rd.drewN (Rd.drewN (by assumption) _) _)).mono ?_; rintro en w1 ⟨rfl, rfl⟩) | (go_at_call 74; refine (l01In_any _ _ _ _).mono ?_; rintro en w1 ⟨rfl, rfl⟩))
        go_ret3
        exact ⟨none, 0, none, 0, by rw [HV.out]; rfl, by rw [HV.out]; exact ⟨rfl, Nat.le_refl _, .inl ⟨rfl, rfl⟩⟩, by rw [HV.out]; exact ⟨rfl, Nat.le_refl _, .inl ⟨rfl, rfl⟩⟩, fun k h => (by cases h), by go_grown⟩
  · have hne : (mCode xs ps != 0) = true := by simp [h]
    have hne2 : (mCode xs ps == 0) = false := by simp [h]
    have HV : Hid (feAll xs ps t m = ([], [], mCode xs ps)) := by show _ = _; simp [feAll, feCode0, h]
    go_enter Try.func65, Try.ntmps65
    go_wp2_with (first | (go_at_call 100; refine (sCode_any _ _ _ _ _ _ _ _ _ (by assumption) (by assumption) (by omega) (by first | assumption | exact Rd.drewN (by assumption) _ | exact Rd.drewN (Rd.drewN (by assumption) _) _) (by assumption) (by assumption) (by omega) (by first | assumption | exact Rd.drewN (by assumption) _ | exact Rd.drewN (Rd.drewN (by assumption) _) _)).mono ?_; rintro en w1 ⟨rfl, rfl⟩) | (go_at_call 74; refine (l01In_any _ _ _ _).mono ?_; rintro en w1 ⟨rfl, rfl⟩))
    go_ret3
    exact ⟨none, 0, none, 0, by rw [HV.out]; rfl, by rw [HV.out]; exact ⟨rfl, Nat.le_refl _, .inl ⟨rfl, rfl⟩⟩, by rw [HV.out]; exact ⟨rfl, Nat.le_refl _, .inl ⟨rfl, rfl⟩⟩, fun k h => (by cases h), by go_grown⟩
end Go.Proofs.Ytgfhmihnnjcagaa
