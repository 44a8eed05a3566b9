/- walks: the closures that count confirmed patterns -/
import Derived.Test.YtoaldcibmcmfdaaW9
import Derived.Test.YtoaldcibmcmfdaaW6
import Derived.Deep.RegionHeld3
set_option linter.unusedVariables false
set_option linter.unusedSimpArgs false
namespace Go.Proofs.Ytoaldcibmcmfdaa
open Go.RowKit

theorem confBits_any (A : Option Addr) (n j k : Nat) (m v : Int) (w : World) (hn : n ≤ 12) (hk0 : 1 ≤ k) (hk1 : k ≤ 12) (hr : Rd w A (bits n j)) (hv : Hid (conf (bits n j) m k = v)) :
    Calls Try.prog 55 #[.slice A n n, .int .i64 m, .int .i64 k] w fun en w9 => en = .returned (.int .i64 v) ∧ w = w9 :=
  (iConfirm_any A n n k m (bits n j) w (bits_len n j) (Nat.le_refl _) (by omega) hr hk0 hk1 (fun x hx => by have := bits_01 n j x hx; omega)).mono fun _ _ h => ⟨by rw [h.1, hv.out], h.2⟩
theorem cf_neg {n j k : Nat} {a m v : Int} (hv : Hid (conf (bits n j) m k = v)) (h : v < 0) : gsum (cf a m k) n (j + 1) = gsum (cf a m k) n j := by
  show gsum _ n j + cf a m k (bits n j) = _
  unfold cf; rw [hv.out, if_pos h]; omega
theorem cf_pos {n j k : Nat} {a m v : Int} (hv : Hid (conf (bits n j) m k = v)) (h : 0 ≤ v) : gsum (cf a m k) n (j + 1) = gsum (cf a m k) n j + cw a (bits n j) := by
  show gsum _ n j + cf a m k (bits n j) = _
  unfold cf; rw [hv.out, if_neg (by omega)]
/-- what the counting closures leave -/
def CntQ (C : Nat) (x : Int) (w : World) (w9 : World) : Prop := w9.cell? ⟨C, 0, none⟩ = some (.int .i64 x) ∧ w9.frozen? ⟨C, 0, none⟩ = false ∧ Gs C w w9
set_option maxHeartbeats 2000000 in
theorem closP_any (n j M K C g k : Nat) (m : Int) (w : World) (hn : n ≤ 12) (hj : j < 2 ^ n) (hk0 : 1 ≤ k) (hk1 : k ≤ 12) (hM : w.cell? ⟨M, 0, none⟩ = some (.int .i64 m)) (hK : w.cell? ⟨K, 0, none⟩ = some (.int .i64 (k : Int)))
    (hC : w.cell? ⟨C, 0, none⟩ = some (.int .i64 (gsum (cf (-1) m k) n j))) (hF : w.frozen? ⟨C, 0, none⟩ = false) (hG : Hid (Cells w g 0 (bits n j))) :
    Calls Try.prog 54 #[.slice (some ⟨g, 0, none⟩) n n, .pointer (some ⟨M, 0, none⟩), .pointer (some ⟨K, 0, none⟩), .pointer (some ⟨C, 0, none⟩)] w fun en w9 => en = .returned (.tuple #[]) ∧ CntQ C (gsum (cf (-1) m k) n (j + 1)) w w9 := by
  have hb := cf_g_bd (n := n) (a := -1) (m := m) (k := k) hn (by omega) (Nat.le_of_lt hj)
  obtain ⟨v, hv⟩ : ∃ v, conf (bits n j) m k = v := ⟨_, rfl⟩
  have HV := Lib.hid hv; clear hv
  have HR := Lib.hid hG.out.rd
  rcases Int.lt_or_le v 0 with h | h
  · have HE := Lib.hid (cf_neg (a := -1) HV h)
    generalize gsum (cf (-1) m k) n j = x at *
    go_enter Try.func54, Try.ntmps54
    go_wp2_with fail
    refine (confBits_any _ n j k m v _ hn hk0 hk1 HR.out HV).mono ?_
    rintro en wq ⟨rfl, rfl⟩
    go_wp2
    first | exact ⟨rfl, by rw [HE.out]; exact hC, hF, Gs.refl _ _⟩ | (go_end0; exact ⟨rfl, by rw [HE.out]; exact hC, hF, Gs.refl _ _⟩)
  · have HE := Lib.hid (cf_pos (a := -1) HV h)
    have e1 : cw (-1) (bits n j) = 1 := by unfold cw; rw [if_pos (by decide)]
    have hb2 := cf_g_bd (n := n) (a := -1) (m := m) (k := k) hn (by omega) hj
    generalize gsum (cf (-1) m k) n j = x at *
    rw [e1] at HE
    clear e1
    go_enter Try.func54, Try.ntmps54
    go_wp2_with fail
    refine (confBits_any _ n j k m v _ hn hk0 hk1 HR.out HV).mono ?_
    rintro en wq ⟨rfl, rfl⟩
    go_wp2
    first | exact ⟨rfl, by rw [HE.out]; go_simp, by go_simp, Gs.set (Gs.refl _ _)⟩ | (go_end0; exact ⟨rfl, by rw [HE.out]; go_simp, by go_simp, Gs.set (Gs.refl _ _)⟩)
set_option maxHeartbeats 4000000 in
theorem closC_any (n j M K C B g k : Nat) (m a : Int) (w : World) (hn : n ≤ 12) (hj : j < 2 ^ n) (a0 : 0 ≤ a) (a1 : a ≤ 16) (hk0 : 1 ≤ k) (hk1 : k ≤ 12) (hM : w.cell? ⟨M, 0, none⟩ = some (.int .i64 m)) (hK : w.cell? ⟨K, 0, none⟩ = some (.int .i64 (k : Int)))
    (hC : w.cell? ⟨C, 0, none⟩ = some (.int .i64 (gsum (cf a m k) n j))) (hF : w.frozen? ⟨C, 0, none⟩ = false) (hB : w.cell? ⟨B, 0, none⟩ = some (.int .i64 a)) (hG : Hid (Cells w g 0 (bits n j))) :
    Calls Try.prog 59 #[.slice (some ⟨g, 0, none⟩) n n, .pointer (some ⟨M, 0, none⟩), .pointer (some ⟨K, 0, none⟩), .pointer (some ⟨C, 0, none⟩), .pointer (some ⟨B, 0, none⟩)] w fun en w9 => en = .returned (.tuple #[]) ∧ CntQ C (gsum (cf a m k) n (j + 1)) w w9 := by
  have hb := cf_g_bd (n := n) (a := a) (m := m) (k := k) hn a1 (Nat.le_of_lt hj)
  obtain ⟨v, hv⟩ : ∃ v, conf (bits n j) m k = v := ⟨_, rfl⟩
  have HV := Lib.hid hv; clear hv
  have HR := Lib.hid hG.out.rd
  rcases Int.lt_or_le v 0 with h | h
  · have HE := Lib.hid (cf_neg (a := a) HV h)
    generalize gsum (cf a m k) n j = x at *
    go_enter Try.func59, Try.ntmps59
    go_wp2_with fail
    refine (confBits_any _ n j k m v _ hn hk0 hk1 HR.out HV).mono ?_
    rintro en wq ⟨rfl, rfl⟩
    go_wp2
    first | exact ⟨rfl, by rw [HE.out]; exact hC, hF, Gs.refl _ _⟩ | (go_end0; exact ⟨rfl, by rw [HE.out]; exact hC, hF, Gs.refl _ _⟩)
  · have HE := Lib.hid (cf_pos (a := a) HV h)
    have e1 : cw a (bits n j) = casesOf a (bits n j) := by unfold cw; rw [if_neg (by omega)]
    have hcb := casesOf_bd a0 a1 (bits n j)
    rw [bits_len] at hcb
    have hp := p16_le n hn
    obtain ⟨u, hu⟩ : ∃ u, casesOf a (bits n j) = u := ⟨_, rfl⟩
    rw [e1, hu] at HE
    rw [hu] at hcb
    have HU := Lib.hid hu; clear hu e1
    generalize gsum (cf a m k) n j = x at *
    have hw : IntKind.i64.wrap (x + u) = x + u := IntWalk.i64_in _ (by omega)
    have FIN : Hid (CntQ C (gsum (cf a m k) n (j + 1)) w (w.setCell ⟨C, 0, none⟩ (.int .i64 (IntKind.i64.wrap (x + u)))).drew) := by
      show _ ∧ _ ∧ _
      rw [hw, HE.out]
      exact ⟨(show _ = _ from World.cell?_setCell_same w ⟨C, 0, none⟩ _ hC), by rw [World.frozen?_drew, World.frozen?_setCell]; exact hF, Gs.drew (Gs.set (Gs.refl _ _))⟩
    clear hw
    go_enter Try.func59, Try.ntmps59
    go_wp2_with fail
    refine (confBits_any _ n j k m v _ hn hk0 hk1 HR.out HV).mono ?_
    rintro en wq ⟨rfl, rfl⟩
    go_wp2_with fail
    go_region_with (first | (go_at_call 60; refine (caseBits_any _ n j a u _ hn a0 a1 (by exact HR.out) HU).mono ?_; rintro en wq ⟨rfl, rfl⟩))
    all_goals go_wp2
    all_goals first | exact ⟨rfl, FIN.out⟩ | (go_end0; exact ⟨rfl, FIN.out⟩)
end Go.Proofs.Ytoaldcibmcmfdaa
