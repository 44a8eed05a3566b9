/- walks: PeaksOver, the program -/
import Derived.Test.YtgfhmihnnjcagaaPlainPk
import Derived.Test.YtgfhmihnnjcagaaTrip
import Derived.Test.YtgfhmihnnjcagaaW5
import Derived.Test.YtgfhmihnnjcagaaW15
set_option linter.unusedVariables false
set_option linter.unusedSimpArgs false
namespace Go.Proofs.Ytgfhmihnnjcagaa
open Go.RowKit

def pkOk (t g : Int) : Bool := inR t 1 1000000000000 && inR g 0 400
def poVal (xs : List Int) (t g : Int) : List Int := if isTrc xs && pkOk t g then srt (pFin xs t g) else []
def poCode (xs : List Int) (t g : Int) : Int := if isTrc xs then (if pkOk t g then 0 else 2) else 1
theorem po_no1 {xs : List Int} {t g : Int} (h : isTrc xs = false) : poVal xs t g = [] ∧ poCode xs t g = 1 := by simp [poVal, poCode, h]
theorem po_no2 {xs : List Int} {t g : Int} (h : isTrc xs = true) (h2 : pkOk t g = false) : poVal xs t g = [] ∧ poCode xs t g = 2 := by simp [poVal, poCode, h, h2]
theorem po_yes {xs : List Int} {t g : Int} (h : isTrc xs = true) (h2 : pkOk t g = true) : poVal xs t g = srt (pFin xs t g) ∧ poCode xs t g = 0 := by simp [poVal, poCode, h, h2]
theorem pTo_le (xs : List Int) (t g : Int) (k : Nat) : (pTo xs t g k).length ≤ k := by
  induction k with
  | zero => simp [pTo]
  | succ k ih => simp only [pTo]; split <;> (try simp only [List.length_append, List.length_singleton]) <;> omega
theorem poVal_len {xs : List Int} {t g : Int} : (poVal xs t g).length ≤ 1048576 := by
  unfold poVal; split
  · rename_i h
    simp only [Bool.and_eq_true] at h
    have := (isTrc_iff.1 h.1).1
    have := pTo_le xs t g xs.length
    rw [srt_len]; unfold pFin; omega
  · simp
theorem Trip.put0 {w : World} {B g0 k : Nat} {ys ds gs : List Int} {v u : Value} {x : Int} (h : Trip w B g0 ys v ds u gs) (hk : k < ys.length) : Trip (w.setCell ⟨g0, k, none⟩ (.int .i64 x)) B g0 (ys.set k x) v ds u gs := by
  have h2 := h.1.put k x hk
  rw [Nat.zero_add] at h2
  exact h.row h2 (grown_set (World.grownBy.refl _ _))
theorem pMask_val {xs cs : List Int} {g : Int} (h : Val xs) : Val (pMask xs cs g) := fun x hx => by
  obtain ⟨i, hi, rfl⟩ := List.mem_map.1 hx
  split
  · decide
  · exact h.at i
def lenOf : Value → Nat
  | .slice _ n _ => n
  | _ => 0
theorem OwnV.lenOf {w : World} {B : Nat} {v : Value} {ys : List Int} (h : OwnV w B v ys) : lenOf v = ys.length := by
  obtain ⟨A, c, rfl, _⟩ := h.R; rfl

set_option maxRecDepth 100000 in
set_option maxHeartbeats 8000000 in
theorem iPo_any (A : Option Addr) (n c : Nat) (xs : List Int) (t g : Int) (w : World) (hn : xs.length = n) (hnc : n ≤ c) (hm : n ≤ 1048576) (hr : Rd w A xs) (hA : A = none → n = 0 ∧ c = 0) (HSO : Hid (∀ (B : Nat) (v : Value) (ys : List Int) (w : World), OwnV w B v ys → ys.length ≤ 1048576 → Calls Try.prog 84 #[v] w fun en w9 => en = .returned (.tuple #[]) ∧ OwnQ w9 B v (srt ys) ∧ Below B w w9)) :
    Calls Try.prog 24 #[.slice A n c, .int .i64 t, .int .i64 g] w fun en w9 => ∃ A9 c9, en = .returned (.tuple #[.slice A9 (poVal xs t g).length c9, .int .i64 (poCode xs t g)]) ∧ OwnR w9 w.heap.size A9 (poVal xs t g).length c9 (poVal xs t g) ∧ Below w.heap.size w w9 := by
  rcases Bool.eq_false_or_eq_true (isTrc xs) with h | h
  · have hs := isTrc_iff.1 h
    have hl : n ≤ 400 := by rw [← hn]; exact hs.1
    have HVX := Lib.hid hs.2
    clear hs
    rcases Bool.eq_false_or_eq_true (inR t 1 1000000000000) with e1 | e1
    · have t1 := inR_iff.1 e1
      rcases Bool.eq_false_or_eq_true (inR g 0 400) with e2 | e2
      · have g1 := inR_iff.1 e2
        have HV : Hid (poVal xs t g = srt (pFin xs t g) ∧ poCode xs t g = 0) := po_yes h (by simp [pkOk, e1, e2])
        go_enter Try.func24, Try.ntmps24
        go_wp2_with (first | (go_at_call 78; refine (iTrc_any _ _ _ _ _ (by assumption) (by assumption) (by omega) (by first | assumption | exact Rd.drewN (by assumption) _ | exact Rd.drewN (Rd.drewN (by assumption) _) _)).mono ?_; rintro en w1 ⟨rfl, rfl⟩) | (go_at_call 79; refine (within_any _ _ _ _).mono ?_; rintro en w1 ⟨rfl, rfl⟩))
        refine (clone_any A n c xs _ hn (by omega) hr hA).mono ?_
        rintro en w1 ⟨v0, rfl, hown0, hb1⟩
        obtain ⟨A9, c9, rfl, hR⟩ := hown0.R
        rw [hn] at hR ⊢
        clear hown0
        rcases Nat.eq_zero_or_pos n with h0 | hpos
        · subst h0
          have HF : Hid (srt (pFin xs t g) = []) := by show _ = _; apply List.eq_nil_of_length_eq_zero; rw [srt_len]; unfold pFin; rw [hn]; rfl
          go_wp2
          refine wp_loop_rounds 1 ?_
          rw [rounds_succ]
          go_wp2_with fail
          refine (HSO.out w1.heap.size (.slice none 0 0) [] _ (OwnV.none _ _) (by simp)).mono ?_
          rintro en w2 ⟨rfl, _, hb2⟩
          go_wp2
          go_ret2
          exact ⟨none, 0, by rw [HV.out.1, HV.out.2, HF.out]; rfl, by rw [HV.out.1, HF.out]; exact ⟨rfl, Nat.le_refl _, .inl ⟨rfl, rfl⟩⟩, bseq hb1 hb2⟩
        rcases hR.2.2 with ⟨_, h0⟩ | ⟨g0, rfl, hB0, hg0, hc0⟩
        · exfalso; omega
        have HT0 : Hid (Trip w1 w.heap.size g0 (pMask xs (pTo xs t g 0) g) (.slice none 0 0) (pTo xs t g 0) (.slice none 0 0) []) := by
          refine ⟨?_, OwnV.none _ _, OwnV.none _ _, by simp [Value.ownBlock], by simp [Value.ownBlock], fun q hq => by simp [Value.ownBlock] at hq, hg0⟩
          show Cells w1 g0 0 (pMask xs [] g)
          rw [pMask_nil]; exact hc0
        clear hR hc0 hg0
        have HN := Lib.hid hn; clear hn
        go_wp2
        go_loopw [8] (fun v wr => ∃ k : Nat, Hid (∀ j, j < k → 0 ≤ pNext xs (pTo xs t g j) t g xs.length) ∧ Hid (Trip wr w.heap.size g0 (pMask xs (pTo xs t g k) g) v (pTo xs t g k) (.slice none 0 0) []) ∧ Below w.heap.size w wr) (fun v _ => n - lenOf v)
        case atStart => exact ⟨0, fun j hj => absurd hj (Nat.not_lt_zero _), HT0, hb1⟩
        case round =>
          obtain ⟨k, HG, HT, hbel⟩ := hrel
          clear HT0 hb1
          have hroom := pTo_room (t := t) (g := g) t1.1 g1.1 HG.out
          have hlen := pTo_len HG.out
          have hml := pMask_len xs (pTo xs t g k) g
          have HLV : Hid (lenOf u8 = k) := by show _ = _; rw [HT.out.2.1.lenOf, hlen]
          rw [HN.out] at hroom hml
          have HVM : Hid (Val (pMask xs (pTo xs t g k) g)) := pMask_val HVX.out
          have hz1 := hbel.size
          have hni : (0 : Int) < n := by omega
          go_wp2_with fail
          refine (iPeak_any (some ⟨g0, 0, none⟩) n c9 (pMask xs (pTo xs t g k) g) _ hml (by omega) HVM hpos HT.out.1.rd).mono ?_
          rintro en w4 ⟨rfl, m2, hw4⟩
          have HT4 : Hid (Trip w4 w.heap.size g0 (pMask xs (pTo xs t g k) g) u8 (pTo xs t g k) (.slice none 0 0) []) := by rw [hw4]; exact HT.out.below (below_drewN (Below.refl _ _) m2)
          have hb4 : Below w.heap.size w w4 := by rw [hw4]; exact below_drewN hbel m2
          have hz4 := hb4.size
          have hpl : peakIx (pMask xs (pTo xs t g k) g) < n := by
            have := peakTo_lt (pMask xs (pTo xs t g k) g) n hpos
            unfold peakIx; rw [hml]; exact this
          have hx0 := HT4.out.1.1 (peakIx (pMask xs (pTo xs t g k) g)) (by rw [hml]; exact hpl)
          rw [Nat.zero_add] at hx0
          have hvb := HVM.out.at (peakIx (pMask xs (pTo xs t g k) g))
          have HSTOP := Lib.hid (pStop (xs := xs) (cs := pTo xs t g k) (t := t) (g := g) t1.1)
          have HGO := Lib.hid (pGo (xs := xs) (cs := pTo xs t g k) (t := t) (g := g) t1.1 (by rw [HN.out]; exact hpos))
          clear hw4
          obtain ⟨a, ha⟩ : ∃ a, a = peakIx (pMask xs (pTo xs t g k) g) := ⟨_, rfl⟩
          obtain ⟨x, hx⟩ : ∃ x, x = (pMask xs (pTo xs t g k) g).getD (peakIx (pMask xs (pTo xs t g k) g)) 0 := ⟨_, rfl⟩
          rw [← hx] at hx0 hvb HSTOP HGO
          rw [← ha] at hpl hx0 HGO ⊢
          have HA := Lib.hid ha; have HX := Lib.hid hx; clear ha hx
          have hxa := iabs_bd hvb
          have hai : (a : Int) < n := by omega
          rcases Int.lt_or_le (iabs x) t with c1 | c1
          · have HE : Hid (pTo xs t g k = pFin xs t g) := pTo_fin t1.1 g1.1 HG.out (by rw [HSTOP.out c1]; omega)
            go_wp2_with (first | (go_at_call 82; refine (iAbs_any _ _ (by omega) (by omega)).mono ?_; rintro en w1 ⟨rfl, rfl⟩))
            refine (HSO.out w.heap.size _ (pTo xs t g k) _ HT4.out.2.1 (by omega)).mono ?_
            rintro en w5 ⟨rfl, ⟨A8, c8, rfl, hR8⟩, hb5⟩
            have HR8 := Lib.hid hR8; have HB8 := Lib.hid (hb4.trans hb5)
            rw [HE.out] at HR8
            clear hR8 hb5
            go_wp2
            rw [HE.out]
            go_ret2
            exact ⟨A8, c8, by rw [HV.out.1, HV.out.2]; rfl, by rw [HV.out.1]; exact HR8.out, HB8.out⟩
          · have hgo := HGO.out c1
            have HNX : Hid (pNext xs (pTo xs t g k) t g xs.length = (a : Int)) := hgo.1
            have HUP : Hid (pTo xs t g (k + 1) = pTo xs t g k ++ [(a : Int)]) := by show _ = _; rw [pTo_step (by rw [HNX.out]; omega), HNX.out]
            have HG2 : Hid (∀ j, j < k + 1 → 0 ≤ pNext xs (pTo xs t g j) t g xs.length) := fun j hj => by
              rcases Nat.lt_or_ge j k with h1 | h1
              · exact HG.out j h1
              · obtain rfl : j = k := by omega
                rw [HNX.out]; omega
            have hroom2 := pTo_room (t := t) (g := g) t1.1 g1.1 HG2.out
            rw [HN.out] at hroom2
            obtain ⟨lo, hlo⟩ : ∃ lo : Nat, (lo : Int) = max ((a : Int) - g) 0 := ⟨(max ((a : Int) - g) 0).toNat, by omega⟩
            obtain ⟨q, hq⟩ : ∃ q : Nat, (lo : Int) + q = max (min ((a : Int) + g) ((n : Int) - 1) + 1) lo := ⟨(max (min ((a : Int) + g) ((n : Int) - 1) + 1) lo - lo).toNat, by omega⟩
            have HWM : Hid (pWipe (pMask xs (pTo xs t g k) g) lo q = pMask xs (pTo xs t g (k + 1)) g) := by
              show _ = _; rw [HUP.out]; exact pWipe_mask hlo (by rw [HN.out]; exact hq)
            have hag : (a : Int) - g ≤ 400 ∧ -400 ≤ (a : Int) - g ∧ (a : Int) + g ≤ 800 := by omega
            have hqn : lo + q ≤ n := by omega
            have HLO := Lib.hid hlo; have HQ := Lib.hid hq
            clear hlo hq
            go_wp2_with (first | (go_at_call 82; refine (iAbs_any _ _ (by omega) (by omega)).mono ?_; rintro en w1 ⟨rfl, rfl⟩) | (at_builtin; refine app_lies rfl _ _ rfl w.heap.size _ (pTo xs t g k) rfl (OwnV.alloc HT4.out.2.1 _) (a : Int) _ rfl (cell_new1 _ _) (by omega) (by simp only [World.size_alloc]; omega) ?_; intro g6 cap6 w6 hown6 hg6 hat6))
            all_goals
              have HT6 := Lib.hid (Trip.app HT4.out _ hown6 hg6 hat6)
              have hb6 := HT4.out.bel _ hb4 hz4 hg6
              rw [← HUP.out] at HT6
              clear hown6 hg6 hat6 hb4 hz4
              have hlo2 := HLO.out
              go_loopw [11] (fun i wr => ∃ (j e : Nat), j ≤ q ∧ i = .int .i64 (e : Int) ∧ Hid (e = lo + j) ∧ Hid (Trip wr w.heap.size g0 (pWipe (pMask xs (pTo xs t g k) g) lo j) (.slice (some ⟨g6, 0, none⟩) ((pTo xs t g k).length + 1) cap6) (pTo xs t g (k + 1)) (.slice none 0 0) []) ∧ Below w.heap.size w wr) (fun i _ => lo + q - (intOf i).toNat)
              case atStart => exact ⟨0, lo, Nat.zero_le _, by congr 1; omega, rfl, HT6, hb6⟩
              case round =>
                obtain ⟨j, e, hj, rfl, HE, HTE, hbe⟩ := hrel
                clear hlo2
                by_cases hlt : j < q
                · have hel : e < (pWipe (pMask xs (pTo xs t g k) g) lo j).length := by have he := HE.out; have hq := HQ.out; rw [pWipe_len, hml]; omega
                  have hcl := HTE.out.1.1 e hel
                  have hfr := HTE.out.1.2 e hel
                  simp only [Nat.zero_add] at hcl hfr
                  obtain ⟨y, hy⟩ : ∃ y, y = (pWipe (pMask xs (pTo xs t g k) g) lo j).getD e 0 := ⟨_, rfl⟩
                  rw [← hy] at hcl
                  have HT7 : Hid (Trip (wr.setCell ⟨g0, e, none⟩ (.int .i64 0)) w.heap.size g0 (pWipe (pMask xs (pTo xs t g k) g) lo (j + 1)) (.slice (some ⟨g6, 0, none⟩) ((pTo xs t g k).length + 1) cap6) (pTo xs t g (k + 1)) (.slice none 0 0) []) := by
                    show Trip _ _ _ _ _ _ _ _
                    have h2 := Trip.put0 (x := 0) HTE.out hel
                    simp only [pWipe]; rw [← HE.out]; exact h2
                  have hs2 : Below w.heap.size w (wr.setCell ⟨g0, e, none⟩ (.int .i64 0)) := hbe.setCell (p := ⟨g0, e, none⟩) hB0 _
                  clear hy hel
                  have hi3 : (e : Int) ≤ (a : Int) + g := by have he := HE.out; have hq := HQ.out; have hl2 := HLO.out; omega
                  have hi4 : (e : Int) ≤ (n : Int) - 1 := by have he := HE.out; have hq := HQ.out; have hl2 := HLO.out; omega
                  have hi1 : (e : Int) < n := by omega
                  have hi5 : e < lo + q := by have he := HE.out; omega
                  go_wp2_with (first | (go_at_call 83; refine (len_any _ _ _ _).mono ?_; rintro en w1 ⟨rfl, rfl⟩))
                  go_roundw
                  case rel => exact ⟨j + 1, e + 1, by omega, by go_num, by show _ = _; rw [HE.out]; omega, HT7, hs2⟩
                  case measure => simp [intOf]; omega
                · obtain rfl : j = q := by omega
                  have hi3 : min ((a : Int) + g) ((n : Int) - 1) < e := by have he := HE.out; have hq := HQ.out; have hl2 := HLO.out; omega
                  have HT8 := HTE
                  rw [HWM.out, hlen] at HT8
                  go_wp2_with (first | (go_at_call 83; refine (len_any _ _ _ _).mono ?_; rintro en w1 ⟨rfl, rfl⟩))
                  go_roundw
                  case rel => exact ⟨k + 1, HG2, HT8, hbe⟩
                  case measure => rw [HLV.out]; show n - (k + 1) < n - k; omega
      · have HV : Hid (poVal xs t g = [] ∧ poCode xs t g = 2) := po_no2 h (by simp [pkOk, e1, e2])
        go_enter Try.func24, Try.ntmps24
        go_wp2_with (first | (go_at_call 78; refine (iTrc_any _ _ _ _ _ (by assumption) (by assumption) (by omega) (by first | assumption | exact Rd.drewN (by assumption) _ | exact Rd.drewN (Rd.drewN (by assumption) _) _)).mono ?_; rintro en w1 ⟨rfl, rfl⟩) | (go_at_call 79; refine (within_any _ _ _ _).mono ?_; rintro en w1 ⟨rfl, rfl⟩))
        go_ret2
        exact ⟨none, 0, by rw [HV.out.1, HV.out.2]; rfl, by rw [HV.out.1]; exact ⟨rfl, Nat.le_refl _, .inl ⟨rfl, rfl⟩⟩, by go_grown⟩
    · have HV : Hid (poVal xs t g = [] ∧ poCode xs t g = 2) := po_no2 h (by simp [pkOk, e1])
      rcases Bool.eq_false_or_eq_true (inR g 0 400) with e2 | e2
      · go_enter Try.func24, Try.ntmps24
        go_wp2_with (first | (go_at_call 78; refine (iTrc_any _ _ _ _ _ (by assumption) (by assumption) (by omega) (by first | assumption | exact Rd.drewN (by assumption) _ | exact Rd.drewN (Rd.drewN (by assumption) _) _)).mono ?_; rintro en w1 ⟨rfl, rfl⟩) | (go_at_call 79; refine (within_any _ _ _ _).mono ?_; rintro en w1 ⟨rfl, rfl⟩))
        go_ret2
        exact ⟨none, 0, by rw [HV.out.1, HV.out.2]; rfl, by rw [HV.out.1]; exact ⟨rfl, Nat.le_refl _, .inl ⟨rfl, rfl⟩⟩, by go_grown⟩
      · go_enter Try.func24, Try.ntmps24
        go_wp2_with (first | (go_at_call 78; refine (iTrc_any _ _ _ _ _ (by assumption) (by assumption) (by omega) (by first | assumption | exact Rd.drewN (by assumption) _ | exact Rd.drewN (Rd.drewN (by assumption) _) _)).mono ?_; rintro en w1 ⟨rfl, rfl⟩) | (go_at_call 79; refine (within_any _ _ _ _).mono ?_; rintro en w1 ⟨rfl, rfl⟩))
        go_ret2
        exact ⟨none, 0, by rw [HV.out.1, HV.out.2]; rfl, by rw [HV.out.1]; exact ⟨rfl, Nat.le_refl _, .inl ⟨rfl, rfl⟩⟩, by go_grown⟩
  · have HV : Hid (poVal xs t g = [] ∧ poCode xs t g = 1) := po_no1 h
    go_enter Try.func24, Try.ntmps24
    go_wp2_with (first | (go_at_call 78; refine (iTrc_any _ _ _ _ _ (by assumption) (by assumption) (by omega) (by first | assumption | exact Rd.drewN (by assumption) _ | exact Rd.drewN (Rd.drewN (by assumption) _) _)).mono ?_; rintro en w1 ⟨rfl, rfl⟩) | (go_at_call 79; refine (within_any _ _ _ _).mono ?_; rintro en w1 ⟨rfl, rfl⟩))
    go_ret2
    exact ⟨none, 0, by rw [HV.out.1, HV.out.2]; rfl, by rw [HV.out.1]; exact ⟨rfl, Nat.le_refl _, .inl ⟨rfl, rfl⟩⟩, by go_grown⟩
end Go.Proofs.Ytgfhmihnnjcagaa
