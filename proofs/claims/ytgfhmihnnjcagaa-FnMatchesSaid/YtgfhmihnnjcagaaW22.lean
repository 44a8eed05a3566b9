/- walks: TurnSignal, EnergyOf, SidelobeOf -/
import Derived.Test.YtgfhmihnnjcagaaPlainCo
import Derived.Test.YtgfhmihnnjcagaaTwo
import Derived.Test.YtgfhmihnnjcagaaW6
import Derived.Test.YtgfhmihnnjcagaaW15
import Derived.RegionTactic
import Derived.BigRegion
set_option linter.unusedVariables false
set_option linter.unusedSimpArgs false
namespace Go.Proofs.Ytgfhmihnnjcagaa
open Go.RowKit

theorem grown_drew {w w2 : World} {o : Option Nat} (h : w.grownBy w2 o) : w.grownBy w2.drew o := ⟨h.os, h.tape, h.output, h.size, h.block⟩
theorem Cells.put2 {w : World} {g i j : Nat} {xs : List Int} {x y : Int} (h : Cells w g 0 xs) (hi : i < xs.length) (hj : j < xs.length) : Cells ((w.setCell ⟨g, i, none⟩ (.int .i64 x)).setCell ⟨g, j, none⟩ (.int .i64 y)) g 0 ((xs.set i x).set j y) := by
  have h1 := h.put i x hi
  rw [Nat.zero_add] at h1
  have h2 := h1.put j y (by rw [List.length_set]; exact hj)
  rw [Nat.zero_add] at h2
  exact h2
set_option maxHeartbeats 4000000 in
theorem rev_cells (g c : Nat) (ys : List Int) (w : World) (hc : Cells w g 0 ys) (hl : ys.length ≤ 1048576) :
    Calls Try.prog 113 #[.slice (some ⟨g, 0, none⟩) ys.length c] w fun en w9 => en = .returned (.tuple #[]) ∧ Cells w9 g 0 ys.reverse ∧ w.grownBy w9 (some g) := by
  have HC : Hid (Cells w g 0 (revTo ys 0)) := by show Cells _ _ _ _; rw [revTo_zero]; exact hc
  obtain ⟨n, hn⟩ : ∃ n, n = ys.length := ⟨_, rfl⟩
  rw [← hn] at hl ⊢
  have HN := Lib.hid hn; clear hn hc
  go_enter Try.func113, Try.ntmps113
  go_wp2
  go_loopw [2, 3] (fun i j wr => ∃ (k : Nat) (z : Int), i = .int .i64 (k : Int) ∧ j = .int .i64 z ∧ z = (n : Int) - 1 - k ∧ k ≤ n ∧ Hid (Cells wr g 0 (revTo ys k)) ∧ Hid (w.grownBy wr (some g))) (fun i j _ => n - (intOf i).toNat)
  case atStart => exact ⟨0, _, rfl, rfl, by omega, by omega, HC, World.grownBy.refl _ _⟩
  case round =>
    obtain ⟨k, z, rfl, rfl, hz, hk, HK, HG⟩ := hrel
    by_cases hlt : (k : Int) < z
    · obtain ⟨j, rfl⟩ : ∃ j : Nat, z = j := ⟨z.toNat, by omega⟩
      have hkj : k < j := by omega
      have hij : k + j + 1 = ys.length := by rw [← HN.out]; omega
      have hlr : (revTo ys k).length = n := by rw [revTo_len]; exact HN.out.symm
      have a1 := HK.out.1 k (by rw [hlr]; omega)
      have f1 := HK.out.2 k (by rw [hlr]; omega)
      have a2 := HK.out.1 j (by rw [hlr]; omega)
      have f2 := HK.out.2 j (by rw [hlr]; omega)
      rw [revTo_in (by omega) (by omega) (by omega), Nat.zero_add] at a1 a2
      rw [Nat.zero_add] at f1 f2
      have hup := revTo_up hij hkj
      obtain ⟨x, hx⟩ : ∃ x, x = ys.getD k 0 := ⟨_, rfl⟩
      obtain ⟨y, hy⟩ : ∃ y, y = ys.getD j 0 := ⟨_, rfl⟩
      rw [← hx] at a1 hup
      rw [← hy] at a2 hup
      have c1 := HK.out.put2 (x := y) (y := x) (i := k) (j := j) (by rw [hlr]; omega) (by rw [hlr]; omega)
      have c2 := HK.out.put2 (x := x) (y := y) (i := j) (j := k) (by rw [hlr]; omega) (by rw [hlr]; omega)
      rw [hup.1] at c1
      rw [hup.2] at c2
      have H1 := Lib.hid c1; have H2 := Lib.hid c2
      have G1 : Hid (w.grownBy ((wr.setCell ⟨g, k, none⟩ (.int .i64 y)).setCell ⟨g, j, none⟩ (.int .i64 x)) (some g)) := grown_set (grown_set HG.out)
      have G2 : Hid (w.grownBy ((wr.setCell ⟨g, j, none⟩ (.int .i64 x)).setCell ⟨g, k, none⟩ (.int .i64 y)) (some g)) := grown_set (grown_set HG.out)
      clear c1 c2 hup hx hy hlr hij
      have i1 : (0 : Int) ≤ k := by omega
      have i2 : (k : Int) < n := by omega
      have i3 : (0 : Int) ≤ j := by omega
      have i4 : (j : Int) < n := by omega
      have n1 : ¬ k = j := by omega
      have n2 : ¬ j = k := by omega
      have HZ := Lib.hid hz; clear hz
      go_wp2
      go_region
      all_goals go_wp2
      all_goals go_roundw
      case rel => exact ⟨k + 1, _, by go_num, rfl, by have := HZ.out; omega, by omega, by first | exact H1 | exact H2, by first | exact grown_drew G1.out | exact grown_drew G2.out⟩
      case measure => simp [intOf]; omega
    · have HE : Hid (revTo ys k = ys.reverse) := revTo_end (by rw [← HN.out]; omega)
      go_wp2
      go_end0
      exact ⟨rfl, by rw [← HE.out]; exact HK.out, HG.out⟩

theorem rev_own (B : Nat) (v : Value) (ys : List Int) (w : World) (h : OwnV w B v ys) (hl : ys.length ≤ 1048576) :
    Calls Try.prog 113 #[v] w fun en w9 => en = .returned (.tuple #[]) ∧ OwnQ w9 B v ys.reverse ∧ Below B w w9 := by
  obtain ⟨A, c, rfl, hR⟩ := h.R
  rcases Nat.eq_zero_or_pos ys.length with h0 | h0
  · obtain rfl : ys = [] := List.eq_nil_of_length_eq_zero h0
    have HR := Lib.hid hR; clear hR h
    show Calls _ _ #[.slice A 0 c] _ _
    go_enter Try.func113, Try.ntmps113
    go_wp2
    refine wp_loop_rounds 1 ?_
    rw [rounds_succ]
    go_wp2
    go_end0
    exact ⟨rfl, ⟨A, c, rfl, HR.out⟩, Below.refl _ _⟩
  · rcases hR.2.2 with ⟨_, h1⟩ | ⟨g, rfl, hB, hg, hc⟩
    · omega
    · refine (rev_cells g c ys w hc hl).mono ?_
      rintro en w9 ⟨rfl, hc9, hg9⟩
      refine ⟨rfl, ⟨some ⟨g, 0, none⟩, c, by rw [List.length_reverse], rfl, by rw [List.length_reverse]; exact hR.2.1, .inr ⟨g, rfl, hB, Nat.lt_of_lt_of_le hg hg9.size, hc9⟩⟩, ?_⟩
      exact (Below.refl B w).grown hg9 (by omega) (fun k hk => by injection hk with hk; omega)
def TnPost (xs : List Int) (w : World) (en : Ending) (w9 : World) : Prop := ∃ A9 c9, en = .returned (.tuple #[.slice A9 (tnVal xs).length c9, .int .i64 (crCode xs)]) ∧ OwnR w9 w.heap.size A9 (tnVal xs).length c9 (tnVal xs) ∧ Below w.heap.size w w9
theorem tn_no {xs : List Int} (h : isSig xs = false) : tnVal xs = [] ∧ crCode xs = 1 := by simp [tnVal, crCode, h]
theorem tn_yes {xs : List Int} (h : isSig xs = true) : tnVal xs = xs.reverse ∧ crCode xs = 0 := by simp [tnVal, crCode, h]
set_option maxHeartbeats 4000000 in
theorem iTurn_any (A : Option Addr) (n c : Nat) (xs : List Int) (w : World) (hn : xs.length = n) (hnc : n ≤ c) (hm : n ≤ 1048576) (hr : Rd w A xs) (hA : A = none → n = 0 ∧ c = 0) :
    Calls Try.prog 63 #[.slice A n c] w (TnPost xs w) := by
  rcases Bool.eq_false_or_eq_true (isSig xs) with h | h
  · have HV := Lib.hid (tn_yes h)
    go_enter Try.func63, Try.ntmps63
    go_wp2_with (first | (go_at_call 58; refine (iSig_any _ _ _ _ _ (by assumption) (by assumption) (by omega) (by first | assumption | exact Rd.drewN (by assumption) _ | exact Rd.drewN (Rd.drewN (by assumption) _) _)).mono ?_; rintro en w1 ⟨rfl, rfl⟩))
    refine (clone_any A n c xs _ hn (by omega) hr hA).mono ?_
    rintro en w1 ⟨v0, rfl, hown0, hb1⟩
    go_wp2_with fail
    refine (rev_own w.heap.size v0 xs _ hown0 (by omega)).mono ?_
    rintro en w2 ⟨rfl, ⟨A9, c9, rfl, hR9⟩, hb2⟩
    have HR9 := Lib.hid hR9; have HB := Lib.hid (hb1.trans hb2)
    clear hR9 hb1 hb2 hown0
    go_wp2
    go_ret2
    exact ⟨A9, c9, by rw [HV.out.1, HV.out.2, List.length_reverse, hn]; rfl, by rw [HV.out.1]; exact HR9.out, HB.out⟩
  · have HV := Lib.hid (tn_no h)
    go_enter Try.func63, Try.ntmps63
    go_wp2_with (first | (go_at_call 58; refine (iSig_any _ _ _ _ _ (by assumption) (by assumption) (by omega) (by first | assumption | exact Rd.drewN (by assumption) _ | exact Rd.drewN (Rd.drewN (by assumption) _) _)).mono ?_; rintro en w1 ⟨rfl, rfl⟩))
    go_ret2
    exact ⟨none, 0, by rw [HV.out.1, HV.out.2]; rfl, by rw [HV.out.1]; exact ⟨rfl, Nat.le_refl _, .inl ⟨rfl, rfl⟩⟩, by go_grown⟩
theorem rev_take {xs : List Int} {n q : Nat} (hn : xs.length = n) (hq : q < n) : xs.reverse.take (n - q) = xs.reverse.take (n - (q + 1)) ++ [xs.getD q 0] := by
  rw [show n - q = (n - (q + 1)) + 1 by omega, take_snoc (by rw [List.length_reverse]; omega), rev_at (by omega)]
  congr 3; omega
set_option maxHeartbeats 4000000 in
theorem sTurn_any (A : Option Addr) (n c : Nat) (xs : List Int) (w : World) (hn : xs.length = n) (hnc : n ≤ c) (hm : n ≤ 1048576) (hr : Rd w A xs) :
    Calls Try.prog 64 #[.slice A n c] w (TnPost xs w) := by
  rcases Bool.eq_false_or_eq_true (isSig xs) with h | h
  · have HV := Lib.hid (tn_yes h)
    have hl : n ≤ 400 := by rw [← hn]; exact (isSig_iff.1 h).1
    go_enter Try.func64, Try.ntmps64
    go_wp2_with (first | (go_at_call 85; refine (sSig_any _ _ _ _ _ (by assumption) (by assumption) (by omega) (by first | assumption | exact Rd.drewN (by assumption) _ | exact Rd.drewN (Rd.drewN (by assumption) _) _)).mono ?_; rintro en w1 ⟨rfl, rfl⟩))
    have HN := Lib.hid hn; have HR := Lib.hid hr; clear hn hr
    go_loopw [4, 5] (fun v i wr => ∃ (q : Nat) (z : Int), q ≤ n ∧ i = .int .i64 z ∧ z = (q : Int) - 1 ∧ Hid (OwnV wr w.heap.size v (xs.reverse.take (n - q))) ∧ Below w.heap.size w wr) (fun _ i _ => ((intOf i) + 1).toNat)
    case atStart => exact ⟨n, _, Nat.le_refl _, rfl, by omega, by show OwnV _ _ _ _; rw [Nat.sub_self, List.take_zero]; exact OwnV.empty _ _ (Nat.le_refl _), by go_grown⟩
    case round =>
      obtain ⟨q, z, hq, rfl, hz, HQ, hbq⟩ := hrel
      cases q with
      | succ q =>
        obtain rfl : z = q := by omega
        rcases HR.out with h0 | ⟨b, off, hA, hc⟩
        · exfalso; have h1 := HN.out; rw [h0] at h1; simp at h1; omega
        subst hA
        have hx := later hbq (hc q (by rw [HN.out]; omega))
        have HTK := Lib.hid (rev_take (xs := xs) (q := q) HN.out (by omega))
        have HLL : Hid ((xs.reverse.take (n - (q + 1))).length = n - (q + 1)) := by show _ = _; rw [List.length_take, List.length_reverse, HN.out]; omega
        obtain ⟨x, hxx⟩ : ∃ x, x = xs.getD q 0 := ⟨_, rfl⟩
        rw [← hxx] at hx HTK
        have hi2 : (0 : Int) ≤ q := by omega
        have hi3 : (q : Int) < n := by omega
        clear hz hxx hc
        go_wp2_with (at_builtin; refine app_int rfl _ _ rfl w.heap.size _ (xs.reverse.take (n - (q + 1))) rfl (OwnV.alloc HQ.out _) x _ rfl (cell_new1 _ _) (Nat.le_trans (Nat.le_of_eq HLL.out) (by omega)) (by have hsz := hbq.size; simp only [World.size_alloc]; omega) ?_; intro g cap w2 hown2 hb2)
        have HO3 : Hid (∀ L, L = (xs.reverse.take (n - (q + 1))).length + 1 → OwnV w2 w.heap.size (.slice (some ⟨g, 0, none⟩) L cap) (xs.reverse.take (n - q))) := by
          show ∀ L, _
          intro L hL; rw [HTK.out, hL]; exact hown2
        have hB3 : Below w.heap.size w w2 := (Below.alloc hbq hbq.size _).trans hb2
        clear hown2 hb2
        go_roundw
        case rel => exact ⟨q, _, by omega, rfl, by omega, HO3.out _ (by simp), hB3⟩
        case measure => simp [intOf]
      | zero =>
        obtain rfl : z = -1 := by omega
        rw [Nat.sub_zero, List.take_of_length_le (by rw [List.length_reverse, HN.out]; exact Nat.le_refl _)] at HQ
        obtain ⟨A9, c9, rfl, hR9⟩ := HQ.out.R
        have HR9 := Lib.hid hR9; clear hR9 HQ hz
        go_wp2
        go_ret2
        exact ⟨A9, c9, by rw [HV.out.1, HV.out.2]; rfl, by rw [HV.out.1]; exact HR9.out, hbq⟩
  · have HV := Lib.hid (tn_no h)
    go_enter Try.func64, Try.ntmps64
    go_wp2_with (first | (go_at_call 85; refine (sSig_any _ _ _ _ _ (by assumption) (by assumption) (by omega) (by first | assumption | exact Rd.drewN (by assumption) _ | exact Rd.drewN (Rd.drewN (by assumption) _) _)).mono ?_; rintro en w1 ⟨rfl, rfl⟩))
    go_ret2
    exact ⟨none, 0, by rw [HV.out.1, HV.out.2]; rfl, by rw [HV.out.1]; exact ⟨rfl, Nat.le_refl _, .inl ⟨rfl, rfl⟩⟩, by go_grown⟩
set_option maxHeartbeats 2000000 in
theorem iEn_any (A : Option Addr) (n c : Nat) (xs : List Int) (w : World) (hn : xs.length = n) (hnc : n ≤ c) (hm : n ≤ 1048576) (hr : Rd w A xs) :
    Calls Try.prog 54 #[.slice A n c] w fun en w9 => en = .returned (.tuple #[.int .i64 (enVal xs), .int .i64 (crCode xs)]) ∧ ∃ m, w9 = w.drewN m := by

  rcases Bool.eq_false_or_eq_true (isSig xs) with h | h
  · have hs := isSig_iff.1 h
    have hl : n ≤ 400 := by rw [← hn]; exact hs.1
    have HB := Lib.hid hs.2
    have HV : Hid (enVal xs = corr xs 0 ∧ crCode xs = 0) := by show _ ∧ _; simp [enVal, crCode, h]
    clear hs
    go_enter Try.func54, Try.ntmps54; go_wp2_with (first | (go_at_call 58; refine (iSig_any _ _ _ _ _ (by assumption) (by assumption) (by omega) (by first | assumption | exact Rd.drewN (by assumption) _ | exact Rd.drewN (Rd.drewN (by assumption) _) _)).mono ?_; rintro en w1 ⟨rfl, rfl⟩) | (go_at_call 94; refine (iCorr0_any _ _ _ _ _ (by assumption) (by omega) (by assumption) (by first | assumption | exact Rd.drewN (by assumption) _ | exact Rd.drewN (Rd.drewN (by assumption) _) _)).mono ?_; rintro en w1 ⟨rfl, mq, rfl⟩)); go_ret2; exact ⟨by rw [HV.out.1, HV.out.2]; rfl, (by first | exact ⟨_, rfl⟩ | exact ⟨0, rfl⟩)⟩
  · have HV : Hid (enVal xs = 0 ∧ crCode xs = 1) := by show _ ∧ _; simp [enVal, crCode, h]
    go_enter Try.func54, Try.ntmps54; go_wp2_with (first | (go_at_call 58; refine (iSig_any _ _ _ _ _ (by assumption) (by assumption) (by omega) (by first | assumption | exact Rd.drewN (by assumption) _ | exact Rd.drewN (Rd.drewN (by assumption) _) _)).mono ?_; rintro en w1 ⟨rfl, rfl⟩) | (go_at_call 94; refine (iCorr0_any _ _ _ _ _ (by assumption) (by omega) (by assumption) (by first | assumption | exact Rd.drewN (by assumption) _ | exact Rd.drewN (Rd.drewN (by assumption) _) _)).mono ?_; rintro en w1 ⟨rfl, mq, rfl⟩)); go_ret2; exact ⟨by rw [HV.out.1, HV.out.2]; rfl, (by first | exact ⟨_, rfl⟩ | exact ⟨0, rfl⟩)⟩
set_option maxHeartbeats 2000000 in
theorem sEn_any (A : Option Addr) (n c : Nat) (xs : List Int) (w : World) (hn : xs.length = n) (hnc : n ≤ c) (hm : n ≤ 1048576) (hr : Rd w A xs) :
    Calls Try.prog 62 #[.slice A n c] w fun en w9 => en = .returned (.tuple #[.int .i64 (enVal xs), .int .i64 (crCode xs)]) ∧ ∃ m, w9 = w.drewN m := by

  rcases Bool.eq_false_or_eq_true (isSig xs) with h | h
  · have hs := isSig_iff.1 h
    have hl : n ≤ 400 := by rw [← hn]; exact hs.1
    have HB := Lib.hid hs.2
    have HV : Hid (enVal xs = corr xs 0 ∧ crCode xs = 0) := by show _ ∧ _; simp [enVal, crCode, h]
    clear hs
    go_enter Try.func62, Try.ntmps62; go_wp2_with (first | (go_at_call 85; refine (sSig_any _ _ _ _ _ (by assumption) (by assumption) (by omega) (by first | assumption | exact Rd.drewN (by assumption) _ | exact Rd.drewN (Rd.drewN (by assumption) _) _)).mono ?_; rintro en w1 ⟨rfl, rfl⟩) | (go_at_call 93; refine (sCorr0_any _ _ _ _ _ (by assumption) (by omega) (by assumption) (by first | assumption | exact Rd.drewN (by assumption) _ | exact Rd.drewN (Rd.drewN (by assumption) _) _)).mono ?_; rintro en w1 ⟨rfl, mq, rfl⟩)); go_ret2; exact ⟨by rw [HV.out.1, HV.out.2]; rfl, (by first | exact ⟨_, rfl⟩ | exact ⟨0, rfl⟩)⟩
  · have HV : Hid (enVal xs = 0 ∧ crCode xs = 1) := by show _ ∧ _; simp [enVal, crCode, h]
    go_enter Try.func62, Try.ntmps62; go_wp2_with (first | (go_at_call 85; refine (sSig_any _ _ _ _ _ (by assumption) (by assumption) (by omega) (by first | assumption | exact Rd.drewN (by assumption) _ | exact Rd.drewN (Rd.drewN (by assumption) _) _)).mono ?_; rintro en w1 ⟨rfl, rfl⟩) | (go_at_call 93; refine (sCorr0_any _ _ _ _ _ (by assumption) (by omega) (by assumption) (by first | assumption | exact Rd.drewN (by assumption) _ | exact Rd.drewN (Rd.drewN (by assumption) _) _)).mono ?_; rintro en w1 ⟨rfl, mq, rfl⟩)); go_ret2; exact ⟨by rw [HV.out.1, HV.out.2]; rfl, (by first | exact ⟨_, rfl⟩ | exact ⟨0, rfl⟩)⟩
set_option maxHeartbeats 2000000 in
theorem iSd_any (A : Option Addr) (n c : Nat) (xs : List Int) (w : World) (hn : xs.length = n) (hnc : n ≤ c) (hm : n ≤ 1048576) (hr : Rd w A xs) :
    Calls Try.prog 60 #[.slice A n c] w fun en w9 => en = .returned (.tuple #[.int .i64 (sdVal xs), .int .i64 (crCode xs)]) ∧ ∃ m, w9 = w.drewN m := by

  rcases Bool.eq_false_or_eq_true (isSig xs) with h | h
  · have hs := isSig_iff.1 h
    have hl : n ≤ 400 := by rw [← hn]; exact hs.1
    have HB := Lib.hid hs.2
    have HV : Hid (sdVal xs = side xs ∧ crCode xs = 0) := by show _ ∧ _; simp [sdVal, crCode, h]
    clear hs
    go_enter Try.func60, Try.ntmps60; go_wp2_with (first | (go_at_call 58; refine (iSig_any _ _ _ _ _ (by assumption) (by assumption) (by omega) (by first | assumption | exact Rd.drewN (by assumption) _ | exact Rd.drewN (Rd.drewN (by assumption) _) _)).mono ?_; rintro en w1 ⟨rfl, rfl⟩) | (go_at_call 104; refine (iSide_any _ _ _ _ _ (by assumption) (by omega) (by assumption) (by first | assumption | exact Rd.drewN (by assumption) _ | exact Rd.drewN (Rd.drewN (by assumption) _) _)).mono ?_; rintro en w1 ⟨rfl, mq, rfl⟩)); go_ret2; exact ⟨by rw [HV.out.1, HV.out.2]; rfl, (by first | exact ⟨_, rfl⟩ | exact ⟨0, rfl⟩)⟩
  · have HV : Hid (sdVal xs = 0 ∧ crCode xs = 1) := by show _ ∧ _; simp [sdVal, crCode, h]
    go_enter Try.func60, Try.ntmps60; go_wp2_with (first | (go_at_call 58; refine (iSig_any _ _ _ _ _ (by assumption) (by assumption) (by omega) (by first | assumption | exact Rd.drewN (by assumption) _ | exact Rd.drewN (Rd.drewN (by assumption) _) _)).mono ?_; rintro en w1 ⟨rfl, rfl⟩) | (go_at_call 104; refine (iSide_any _ _ _ _ _ (by assumption) (by omega) (by assumption) (by first | assumption | exact Rd.drewN (by assumption) _ | exact Rd.drewN (Rd.drewN (by assumption) _) _)).mono ?_; rintro en w1 ⟨rfl, mq, rfl⟩)); go_ret2; exact ⟨by rw [HV.out.1, HV.out.2]; rfl, (by first | exact ⟨_, rfl⟩ | exact ⟨0, rfl⟩)⟩
set_option maxHeartbeats 2000000 in
theorem sSd_any (A : Option Addr) (n c : Nat) (xs : List Int) (w : World) (hn : xs.length = n) (hnc : n ≤ c) (hm : n ≤ 1048576) (hr : Rd w A xs) :
    Calls Try.prog 61 #[.slice A n c] w fun en w9 => en = .returned (.tuple #[.int .i64 (sdVal xs), .int .i64 (crCode xs)]) ∧ ∃ m, w9 = w.drewN m := by

  rcases Bool.eq_false_or_eq_true (isSig xs) with h | h
  · have hs := isSig_iff.1 h
    have hl : n ≤ 400 := by rw [← hn]; exact hs.1
    have HB := Lib.hid hs.2
    have HV : Hid (sdVal xs = side xs ∧ crCode xs = 0) := by show _ ∧ _; simp [sdVal, crCode, h]
    clear hs
    go_enter Try.func61, Try.ntmps61; go_wp2_with (first | (go_at_call 85; refine (sSig_any _ _ _ _ _ (by assumption) (by assumption) (by omega) (by first | assumption | exact Rd.drewN (by assumption) _ | exact Rd.drewN (Rd.drewN (by assumption) _) _)).mono ?_; rintro en w1 ⟨rfl, rfl⟩) | (go_at_call 108; refine (sSide_any _ _ _ _ _ (by assumption) (by omega) (by assumption) (by first | assumption | exact Rd.drewN (by assumption) _ | exact Rd.drewN (Rd.drewN (by assumption) _) _)).mono ?_; rintro en w1 ⟨rfl, mq, rfl⟩)); go_ret2; exact ⟨by rw [HV.out.1, HV.out.2]; rfl, (by first | exact ⟨_, rfl⟩ | exact ⟨0, rfl⟩)⟩
  · have HV : Hid (sdVal xs = 0 ∧ crCode xs = 1) := by show _ ∧ _; simp [sdVal, crCode, h]
    go_enter Try.func61, Try.ntmps61; go_wp2_with (first | (go_at_call 85; refine (sSig_any _ _ _ _ _ (by assumption) (by assumption) (by omega) (by first | assumption | exact Rd.drewN (by assumption) _ | exact Rd.drewN (Rd.drewN (by assumption) _) _)).mono ?_; rintro en w1 ⟨rfl, rfl⟩) | (go_at_call 108; refine (sSide_any _ _ _ _ _ (by assumption) (by omega) (by assumption) (by first | assumption | exact Rd.drewN (by assumption) _ | exact Rd.drewN (Rd.drewN (by assumption) _) _)).mono ?_; rintro en w1 ⟨rfl, mq, rfl⟩)); go_ret2; exact ⟨by rw [HV.out.1, HV.out.2]; rfl, (by first | exact ⟨_, rfl⟩ | exact ⟨0, rfl⟩)⟩
end Go.Proofs.Ytgfhmihnnjcagaa
