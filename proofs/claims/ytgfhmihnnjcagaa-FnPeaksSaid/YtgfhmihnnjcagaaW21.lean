/- walks: PeaksOver, both -/
import Derived.Test.YtgfhmihnnjcagaaW18
import Derived.Test.YtgfhmihnnjcagaaW19
import Derived.Test.YtgfhmihnnjcagaaW20
import Derived.Test.YtgfhmihnnjcagaaW5
import Derived.Test.YtgfhmihnnjcagaaSrt
import Derived.Deep.QuietTactic
import Derived.BigQuiet
set_option linter.unusedVariables false
set_option linter.unusedSimpArgs false
namespace Go.Proofs.Ytgfhmihnnjcagaa
open Go.RowKit

theorem iPo2_any (A : Option Addr) (n c : Nat) (xs : List Int) (t g : Int) (w : World) (hn : xs.length = n) (hnc : n ≤ c) (hm : n ≤ 1048576) (hr : Rd w A xs) (hA : A = none → n = 0 ∧ c = 0) :
    Calls Try.prog 24 #[.slice A n c, .int .i64 t, .int .i64 g] w fun en w9 => ∃ A9 c9, en = .returned (.tuple #[.slice A9 (poVal xs t g).length c9, .int .i64 (poCode xs t g)]) ∧ OwnR w9 w.heap.size A9 (poVal xs t g).length c9 (poVal xs t g) ∧ Below w.heap.size w w9 :=
  iPo_any A n c xs t g w hn hnc hm hr hA sort_own
theorem OwnR.low {w : World} {B B2 : Nat} {A : Option Addr} {n c : Nat} {ys : List Int} (h : OwnR w B2 A n c ys) (hB : B ≤ B2) : OwnR w B A n c ys := by
  refine ⟨h.1, h.2.1, ?_⟩
  rcases h.2.2 with h0 | ⟨g, e, h1, rest⟩
  · exact .inl h0
  · exact .inr ⟨g, e, Nat.le_trans hB h1, rest⟩
theorem pTo_in {xs : List Int} {t g : Int} {k n : Nat} (hn : xs.length = n) (hl : n ≤ 400) (ht : 1 ≤ t) : InR (pTo xs t g k) := by
  induction k with
  | zero => intro x hx; cases hx
  | succ k ih =>
    simp only [pTo]
    split
    · exact ih
    · rename_i h
      intro x hx
      rcases List.mem_append.1 hx with hx | hx
      · exact ih x hx
      · obtain rfl : x = _ := List.mem_singleton.1 hx
        rcases pNext_peak (xs := xs) (cs := pTo xs t g k) (g := g) ht (Nat.le_refl _) with ⟨e, _⟩ | ⟨e, hlt, _⟩
        · omega
        · rw [e]; omega
theorem pNext_lt {xs cs : List Int} {t g : Int} {i : Nat} : -1 ≤ pNext xs cs t g i ∧ pNext xs cs t g i < i := by
  induction i with
  | zero => simp [pNext]
  | succ i ih =>
    simp only [pNext]; split
    · omega
    · omega
theorem pNext_up {xs cs : List Int} {t g : Int} {i : Nat} (h1 : t ≤ iabs (xs.getD i 0)) (h2 : pNear cs g i = false) (h3 : pNext xs cs t g i < 0 ∨ iabs (xs.getD (pNext xs cs t g i).toNat 0) < iabs (xs.getD i 0)) : pNext xs cs t g (i + 1) = i := by
  simp only [pNext]; rw [if_pos ⟨h1, h2, h3⟩]
theorem pNext_stay {xs cs : List Int} {t g : Int} {i : Nat} (h : ¬ (t ≤ iabs (xs.getD i 0) ∧ pNear cs g i = false ∧ (pNext xs cs t g i < 0 ∨ iabs (xs.getD (pNext xs cs t g i).toNat 0) < iabs (xs.getD i 0)))) : pNext xs cs t g (i + 1) = pNext xs cs t g i := by
  simp only [pNext]; rw [if_neg h]

set_option maxRecDepth 100000 in
set_option maxHeartbeats 8000000 in
theorem sPo_any (A : Option Addr) (n c : Nat) (xs : List Int) (t g : Int) (w : World) (hn : xs.length = n) (hnc : n ≤ c) (hm : n ≤ 1048576) (hr : Rd w A xs) (hA : A = none → n = 0 ∧ c = 0)  :
    Calls Try.prog 22 #[.slice A n c, .int .i64 t, .int .i64 g] w fun en w9 => ∃ A9 c9, en = .returned (.tuple #[.slice A9 (poVal xs t g).length c9, .int .i64 (poCode xs t g)]) ∧ OwnR w9 w.heap.size A9 (poVal xs t g).length c9 (poVal xs t g) ∧ Below w.heap.size w w9 := by
  rcases Bool.eq_false_or_eq_true (isTrc xs) with h | h
  · have hs := isTrc_iff.1 h
    have hl : n ≤ 400 := by rw [← hn]; exact hs.1
    have HVX := Lib.hid hs.2
    clear hs
    rcases Bool.eq_false_or_eq_true (inR t 1 1000000000000) with e1 | e1
    · have t1 := inR_iff.1 e1
      rcases Bool.eq_false_or_eq_true (inR g 0 400) with e2 | e2
      · have g1 := inR_iff.1 e2
        have HV : Hid (poVal xs t g = srt (pFin xs t g) ∧ poCode xs t g = 0) := po_yes h (by simp [pkOk, e1, e2])
        have HR := Lib.hid hr; clear hr
        have HN := Lib.hid hn; clear hn
        go_enter Try.func22, Try.ntmps22
        go_wp2_with (first | (go_at_call 73; refine (sTrc_any _ _ _ _ _ (by assumption) (by assumption) (by omega) (by first | assumption | exact Rd.drewN (by assumption) _ | exact Rd.drewN (Rd.drewN (by assumption) _) _)).mono ?_; rintro en w1 ⟨rfl, rfl⟩) | (go_at_call 74; refine (l01In_any _ _ _ _).mono ?_; rintro en w1 ⟨rfl, rfl⟩))
        go_loopw [8] (fun v wr => ∃ k : Nat, Hid (∀ j, j < k → 0 ≤ pNext xs (pTo xs t g j) t g xs.length) ∧ Hid (OwnV wr w.heap.size v (pTo xs t g k)) ∧ Below w.heap.size w wr) (fun v _ => n - lenOf v)
        case atStart => exact ⟨0, fun j hj => absurd hj (Nat.not_lt_zero _), OwnV.empty _ _ (Nat.le_refl _), by go_grown⟩
        case round =>
          obtain ⟨k, HG, HO, hbel⟩ := hrel
          obtain ⟨wo, rfl⟩ : ∃ wo : World, wo = wr := ⟨_, rfl⟩
          have hroom := pTo_room (t := t) (g := g) t1.1 g1.1 HG.out
          have hlen := pTo_len HG.out
          rw [HN.out] at hroom
          have HLV : Hid (lenOf u8 = k) := by show _ = _; rw [HO.out.lenOf, hlen]
          obtain ⟨A8, c8, rfl, hR8⟩ := HO.out.R
          rw [hlen] at hR8 HLV ⊢
          have HR8 := Lib.hid hR8.rd
          have HIN : Hid (InR (pTo xs t g k)) := pTo_in HN.out hl t1.1
          have hz := hbel.size
          clear hR8
          go_wp2
          go_loopw [9, 10] (fun b i w4 => ∃ i2 m : Nat, i2 ≤ n ∧ i = .int .i64 (i2 : Int) ∧ b = .int .i64 (pNext xs (pTo xs t g k) t g i2) ∧ w4 = wo.drewN m) (fun _ i _ => n - (intOf i).toNat)
          case atStart => exact ⟨0, 0, Nat.zero_le _, rfl, rfl, rfl⟩
          case round =>
            obtain ⟨i, m, hi, rfl, rfl, hwr⟩ := hrel
            have HW := Lib.hid hwr; clear hwr
            have hpb := pNext_lt (xs := xs) (cs := pTo xs t g k) (t := t) (g := g) (i := i)
            by_cases hlt : i < n
            · rcases HR.out with h0 | ⟨b, off, hA2, hc⟩
              · exfalso; have h1 := HN.out; rw [h0] at h1; simp at h1; omega
              have hc2 : ∀ j, j < n → wr.cell? ⟨b, off + j, none⟩ = some (.int .i64 (xs.getD j 0)) := fun j hj => by
                rw [HW.out]; exact later (w := w) (w2 := wo) hbel (hc j (by rw [HN.out]; exact hj))
              have HC2 := Lib.hid hc2; clear hc2 hc
              subst hA2
              have hx := HC2.out i hlt
              have hxb := HVX.out.at i
              have HUP := fun a b c => Lib.hid (pNext_up (xs := xs) (cs := pTo xs t g k) (t := t) (g := g) (i := i) a b c)
              have HST := fun a => Lib.hid (pNext_stay (xs := xs) (cs := pTo xs t g k) (t := t) (g := g) (i := i) a)
              have hcr : Rd wr A8 (pTo xs t g k) := by rw [HW.out]; exact HR8.out.drewN m
              have hi0 : (0 : Int) ≤ (i : Int) := by omega
              have hi1 : (i : Int) < n := by omega
              have hi4 : 0 ≤ (i : Int) ∧ (i : Int) ≤ 400 := by omega
              have hk4 : k ≤ 1048576 := by omega
              obtain ⟨x, hxx⟩ : ∃ x, x = xs.getD i 0 := ⟨_, rfl⟩
              obtain ⟨p, hpp⟩ : ∃ p, p = pNext xs (pTo xs t g k) t g i := ⟨_, rfl⟩
              rw [← hxx] at hx hxb HUP HST
              rw [← hpp] at hpb HUP HST ⊢
              have HXX := Lib.hid hxx; have HPP := Lib.hid hpp; clear hxx hpp
              have hxa := iabs_bd hxb
              rcases Int.lt_or_le (iabs x) t with c1 | c1
              · have HP : Hid (p = pNext xs (pTo xs t g k) t g (i + 1)) := (HST (fun h => by omega)).out.symm
                have c1n : ¬ t ≤ iabs x := by omega
                have c1d : decide (t ≤ iabs x) = false := decide_eq_false c1n
                clear HUP HST
                go_wp2
                go_quiet (first | (go_at_call 75; exact Calls.quiet_of_same ((sAbs_any _ _ (by omega) (by omega)).mono fun _ _ h => ⟨h.1, h.2.symm⟩)) | (go_at_call 76; exact Calls.quiet_of_same ((near_any _ _ _ _ _ _ _ (by assumption) (by omega) (by assumption) (by omega) (by first | assumption | exact Rd.drewN (by assumption) _ | exact Rd.drewN (Rd.drewN (by assumption) _) _)).mono fun _ _ h => ⟨h.1, h.2.symm⟩)))
                go_wp2
                go_roundw
                case rel => exact ⟨i + 1, m + nq, by omega, by go_num, by rw [HP.out], by rw [HW.out]; exact World.drewN_drewN _ _ _⟩
                case measure => simp [intOf]; omega
              · rcases Bool.eq_false_or_eq_true (pNear (pTo xs t g k) g (i : Int)) with c2 | c2
                · have HP : Hid (p = pNext xs (pTo xs t g k) t g (i + 1)) := (HST (fun h => by rw [c2] at h; exact absurd h.2.1 (by decide))).out.symm
                  clear HUP HST
                  go_wp2
                  go_quiet (first | (go_at_call 75; exact Calls.quiet_of_same ((sAbs_any _ _ (by omega) (by omega)).mono fun _ _ h => ⟨h.1, h.2.symm⟩)) | (go_at_call 76; exact Calls.quiet_of_same ((near_any _ _ _ _ _ _ _ (by assumption) (by omega) (by assumption) (by omega) (by first | assumption | exact Rd.drewN (by assumption) _ | exact Rd.drewN (Rd.drewN (by assumption) _) _)).mono fun _ _ h => ⟨h.1, h.2.symm⟩)))
                  go_wp2
                  go_roundw
                  case rel => exact ⟨i + 1, m + nq, by omega, by go_num, by rw [HP.out], by rw [HW.out]; exact World.drewN_drewN _ _ _⟩
                  case measure => simp [intOf]; omega
                · rcases Int.lt_or_le p 0 with c3 | c3
                  · have HP : Hid ((i : Int) = pNext xs (pTo xs t g k) t g (i + 1)) := (HUP c1 c2 (.inl c3)).out.symm
                    clear HUP HST
                    go_wp2
                    go_quiet (first | (go_at_call 75; exact Calls.quiet_of_same ((sAbs_any _ _ (by omega) (by omega)).mono fun _ _ h => ⟨h.1, h.2.symm⟩)) | (go_at_call 76; exact Calls.quiet_of_same ((near_any _ _ _ _ _ _ _ (by assumption) (by omega) (by assumption) (by omega) (by first | assumption | exact Rd.drewN (by assumption) _ | exact Rd.drewN (Rd.drewN (by assumption) _) _)).mono fun _ _ h => ⟨h.1, h.2.symm⟩)))
                    go_wp2
                    go_roundw
                    case rel => exact ⟨i + 1, m + nq, by omega, by go_num, by rw [HP.out], by rw [HW.out]; exact World.drewN_drewN _ _ _⟩
                    case measure => simp [intOf]; omega
                  · obtain ⟨q, rfl⟩ : ∃ q : Nat, p = q := ⟨p.toNat, by omega⟩
                    have hqn : (q : Int) < n := by omega
                    have hy := HC2.out q (by omega)
                    have hyb := HVX.out.at q
                    obtain ⟨y, hyy⟩ : ∃ y, y = xs.getD q 0 := ⟨_, rfl⟩
                    have HUP2 : iabs y < iabs x → Hid ((i : Int) = pNext xs (pTo xs t g k) t g (i + 1)) := fun h => (HUP c1 c2 (.inr (by rw [Int.toNat_natCast, ← hyy]; exact h))).out.symm
                    have HST2 : ¬ iabs y < iabs x → Hid ((q : Int) = pNext xs (pTo xs t g k) t g (i + 1)) := fun h => (HST (fun h2 => by
                      rcases h2.2.2 with h3 | h3
                      · omega
                      · rw [Int.toNat_natCast, ← hyy] at h3; exact h h3)).out.symm
                    rw [← hyy] at hy hyb
                    clear hyy HUP HST
                    have hya := iabs_bd hyb
                    rcases Int.lt_or_le (iabs y) (iabs x) with c4 | c4
                    · have HP := HUP2 c4
                      clear HUP2 HST2
                      go_wp2
                      go_quiet (first | (go_at_call 75; exact Calls.quiet_of_same ((sAbs_any _ _ (by omega) (by omega)).mono fun _ _ h => ⟨h.1, h.2.symm⟩)) | (go_at_call 76; exact Calls.quiet_of_same ((near_any _ _ _ _ _ _ _ (by assumption) (by omega) (by assumption) (by omega) (by first | assumption | exact Rd.drewN (by assumption) _ | exact Rd.drewN (Rd.drewN (by assumption) _) _)).mono fun _ _ h => ⟨h.1, h.2.symm⟩)))
                      go_wp2
                      go_roundw
                      case rel => exact ⟨i + 1, m + nq, by omega, by go_num, by rw [HP.out], by rw [HW.out]; exact World.drewN_drewN _ _ _⟩
                      case measure => simp [intOf]; omega
                    · have HP := HST2 (by omega)
                      clear HUP2 HST2
                      go_wp2
                      go_quiet (first | (go_at_call 75; exact Calls.quiet_of_same ((sAbs_any _ _ (by omega) (by omega)).mono fun _ _ h => ⟨h.1, h.2.symm⟩)) | (go_at_call 76; exact Calls.quiet_of_same ((near_any _ _ _ _ _ _ _ (by assumption) (by omega) (by assumption) (by omega) (by first | assumption | exact Rd.drewN (by assumption) _ | exact Rd.drewN (Rd.drewN (by assumption) _) _)).mono fun _ _ h => ⟨h.1, h.2.symm⟩)))
                      go_wp2
                      go_roundw
                      case rel => exact ⟨i + 1, m + nq, by omega, by go_num, by rw [HP.out], by rw [HW.out]; exact World.drewN_drewN _ _ _⟩
                      case measure => simp [intOf]; omega
            · obtain rfl : i = n := by omega
              have HNX : Hid (pNext xs (pTo xs t g k) t g i = pNext xs (pTo xs t g k) t g xs.length) := by show _ = _; rw [HN.out]
              obtain ⟨p, hpp⟩ : ∃ p, p = pNext xs (pTo xs t g k) t g i := ⟨_, rfl⟩
              rw [← hpp] at HNX hpb ⊢
              clear hpp
              have hb4 : Below w.heap.size w wr := by rw [HW.out]; exact below_drewN hbel m
              have HO4 : Hid (OwnV wr w.heap.size (.slice A8 k c8) (pTo xs t g k)) := by show OwnV _ _ _ _; rw [HW.out]; have h := HO.out.drewN m; rwa [hlen] at h
              have hz4 := hb4.size
              rcases Int.lt_or_le p 0 with c3 | c3
              · have HE : Hid (pTo xs t g k = pFin xs t g) := pTo_fin t1.1 g1.1 HG.out (by rw [← HNX.out]; exact c3)
                have hcr : Rd wr A8 (pTo xs t g k) := by rw [HW.out]; exact HR8.out.drewN m
                go_wp2_with fail
                refine (sorted_any A8 k c8 (pTo xs t g k) _ hlen (by omega) hcr).mono ?_
                rintro en w5 ⟨A9, c9, rfl, hR9, hb5⟩
                have HR9 : Hid (OwnR w5 w.heap.size A9 (srt (pTo xs t g k)).length c9 (srt (pTo xs t g k))) := hR9.low hz4
                have HB9 : Hid (Below w.heap.size w w5) := hb4.trans (hb5.mono hz4)
                rw [HE.out] at HR9 ⊢
                clear hR9 hb5
                go_wp2
                go_ret2
                exact ⟨A9, c9, by rw [HV.out.1, HV.out.2]; rfl, by rw [HV.out.1]; exact HR9.out, HB9.out⟩
              · have HUP : Hid (pTo xs t g (k + 1) = pTo xs t g k ++ [p]) := by show _ = _; rw [pTo_step (by rw [← HNX.out]; exact c3), ← HNX.out]
                have HG2 : Hid (∀ j, j < k + 1 → 0 ≤ pNext xs (pTo xs t g j) t g xs.length) := fun j hj => by
                  rcases Nat.lt_or_ge j k with h1 | h1
                  · exact HG.out j h1
                  · obtain rfl : j = k := by omega
                    rw [← HNX.out]; exact c3
                have hroom2 := pTo_room (t := t) (g := g) t1.1 g1.1 HG2.out
                rw [HN.out] at hroom2
                go_wp2_with (at_builtin; refine app_int rfl _ _ rfl w.heap.size _ (pTo xs t g k) rfl (OwnV.alloc HO4.out _) p _ rfl (cell_new1 _ _) (by omega) (by simp only [World.size_alloc]; omega) ?_; intro g6 cap6 w6 hown6 hb6)
                have HO6 : Hid (OwnV w6 w.heap.size (.slice (some ⟨g6, 0, none⟩) (k + 1) cap6) (pTo xs t g (k + 1))) := by show OwnV _ _ _ _; rw [HUP.out]; rw [hlen] at hown6; exact hown6
                have hb7 : Below w.heap.size w w6 := (Below.alloc hb4 hz4 _).trans hb6
                clear hown6 hb6
                go_roundw
                case rel => exact ⟨k + 1, HG2, HO6, hb7⟩
                case measure => show _ - (k + 1) < _ - k; omega
      · have HV : Hid (poVal xs t g = [] ∧ poCode xs t g = 2) := po_no2 h (by simp [pkOk, e1, e2])
        go_enter Try.func22, Try.ntmps22
        go_wp2_with (first | (go_at_call 73; refine (sTrc_any _ _ _ _ _ (by assumption) (by assumption) (by omega) (by first | assumption | exact Rd.drewN (by assumption) _ | exact Rd.drewN (Rd.drewN (by assumption) _) _)).mono ?_; rintro en w1 ⟨rfl, rfl⟩) | (go_at_call 74; refine (l01In_any _ _ _ _).mono ?_; rintro en w1 ⟨rfl, rfl⟩))
        go_ret2
        exact ⟨none, 0, by rw [HV.out.1, HV.out.2]; rfl, by rw [HV.out.1]; exact ⟨rfl, Nat.le_refl _, .inl ⟨rfl, rfl⟩⟩, by go_grown⟩
    · have HV : Hid (poVal xs t g = [] ∧ poCode xs t g = 2) := po_no2 h (by simp [pkOk, e1])
      rcases Bool.eq_false_or_eq_true (inR g 0 400) with e2 | e2
      · go_enter Try.func22, Try.ntmps22
        go_wp2_with (first | (go_at_call 73; refine (sTrc_any _ _ _ _ _ (by assumption) (by assumption) (by omega) (by first | assumption | exact Rd.drewN (by assumption) _ | exact Rd.drewN (Rd.drewN (by assumption) _) _)).mono ?_; rintro en w1 ⟨rfl, rfl⟩) | (go_at_call 74; refine (l01In_any _ _ _ _).mono ?_; rintro en w1 ⟨rfl, rfl⟩))
        go_ret2
        exact ⟨none, 0, by rw [HV.out.1, HV.out.2]; rfl, by rw [HV.out.1]; exact ⟨rfl, Nat.le_refl _, .inl ⟨rfl, rfl⟩⟩, by go_grown⟩
      · go_enter Try.func22, Try.ntmps22
        go_wp2_with (first | (go_at_call 73; refine (sTrc_any _ _ _ _ _ (by assumption) (by assumption) (by omega) (by first | assumption | exact Rd.drewN (by assumption) _ | exact Rd.drewN (Rd.drewN (by assumption) _) _)).mono ?_; rintro en w1 ⟨rfl, rfl⟩) | (go_at_call 74; refine (l01In_any _ _ _ _).mono ?_; rintro en w1 ⟨rfl, rfl⟩))
        go_ret2
        exact ⟨none, 0, by rw [HV.out.1, HV.out.2]; rfl, by rw [HV.out.1]; exact ⟨rfl, Nat.le_refl _, .inl ⟨rfl, rfl⟩⟩, by go_grown⟩
  · have HV : Hid (poVal xs t g = [] ∧ poCode xs t g = 1) := po_no1 h
    go_enter Try.func22, Try.ntmps22
    go_wp2_with (first | (go_at_call 73; refine (sTrc_any _ _ _ _ _ (by assumption) (by assumption) (by omega) (by first | assumption | exact Rd.drewN (by assumption) _ | exact Rd.drewN (Rd.drewN (by assumption) _) _)).mono ?_; rintro en w1 ⟨rfl, rfl⟩) | (go_at_call 74; refine (l01In_any _ _ _ _).mono ?_; rintro en w1 ⟨rfl, rfl⟩))
    go_ret2
    exact ⟨none, 0, by rw [HV.out.1, HV.out.2]; rfl, by rw [HV.out.1]; exact ⟨rfl, Nat.le_refl _, .inl ⟨rfl, rfl⟩⟩, by go_grown⟩
end Go.Proofs.Ytgfhmihnnjcagaa
