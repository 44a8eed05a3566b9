/- walks: clear echoes -/
import Derived.Test.YtgfhmihnnjcagaaW5
set_option linter.unusedVariables false
set_option linter.unusedSimpArgs false
namespace Go.Proofs.Ytgfhmihnnjcagaa
open Go.RowKit

def excess (xs : List Int) : Int := corr xs 0 - side xs
def most (xs : List Int) (e : Int) : Int := 2 * e * wt xs
def clear (xs : List Int) (g e : Int) : Bool := decide (most xs e < iabs g * excess xs)
theorem wt_bd {xs : List Int} (h : Sig xs) (hl : xs.length ≤ 400) : 0 ≤ wt xs ∧ wt xs ≤ 400000 := by
  have := wtTo_bd h xs.length; unfold wt; omega
theorem side_bd {xs : List Int} (h : Sig xs) (hl : xs.length ≤ 400) : 0 ≤ side xs ∧ side xs ≤ 400000000 := sideTo_bd h hl _
theorem excess_bd {xs : List Int} (h : Sig xs) (hl : xs.length ≤ 400) : -800000000 ≤ excess xs ∧ excess xs ≤ 800000000 := by
  have := corr_bd h hl 0; have := side_bd h hl; unfold excess; omega
theorem most_bd {xs : List Int} (h : Sig xs) (hl : xs.length ≤ 400) {e : Int} (h0 : 0 ≤ e) (h1 : e ≤ 1000) : 0 ≤ most xs e ∧ most xs e ≤ 800000000 := by
  have hw := wt_bd h hl
  have h2 := mul_bd (a := 2 * e) (b := wt xs) (A := 2000) (B := 400000) (by omega) (by omega)
  have h3 := Int.mul_nonneg (show 0 ≤ 2 * e by omega) hw.1
  unfold most; omega
def clrVal (xs : List Int) (g e : Int) : Bool := isSig xs && (inR g (-1000) 1000 && inR e 0 1000) && clear xs g e
def clrCode (xs : List Int) (g e : Int) : Int := if isSig xs then (if inR g (-1000) 1000 && inR e 0 1000 then 0 else 2) else 1
theorem iCorr0_any (A : Option Addr) (n c : Nat) (xs : List Int) (w : World) (hn : xs.length = n) (hm : n ≤ 400) (hb : Hid (Sig xs)) (hr : Rd w A xs) :
    Calls Try.prog 94 #[.slice A n c, .int .i64 0] w fun en w9 => en = .returned (.int .i64 (corr xs 0)) ∧ ∃ m, w9 = w.drewN m := iCorr_any A n c 0 xs w hn hm (Nat.zero_le _) hb hr
theorem sCorr0_any (A : Option Addr) (n c : Nat) (xs : List Int) (w : World) (hn : xs.length = n) (hm : n ≤ 400) (hb : Hid (Sig xs)) (hr : Rd w A xs) :
    Calls Try.prog 93 #[.slice A n c, .int .i64 0] w fun en w9 => en = .returned (.int .i64 (corr xs 0)) ∧ ∃ m, w9 = w.drewN m := sCorr_any A n c 0 xs w hn hm (Nat.zero_le _) hb hr

set_option maxHeartbeats 2000000 in
theorem iClr_any (A : Option Addr) (n c : Nat) (xs : List Int) (g e : Int) (w : World) (hn : xs.length = n) (hm : n ≤ 400) (hb : Hid (Sig xs)) (g0 : -1000 ≤ g) (g1 : g ≤ 1000) (e0 : 0 ≤ e) (e1 : e ≤ 1000) (hr : Rd w A xs) :
    Calls Try.prog 99 #[.slice A n c, .int .i64 g, .int .i64 e] w fun en w9 => en = .returned (.bool (clear xs g e)) ∧ ∃ m, w9 = w.drewN m := by
  have hl : xs.length ≤ 400 := by omega
  have h1 := corr_bd hb.out hl 0
  have h2 := side_bd hb.out hl
  have h3 := wt_bd hb.out hl
  have h4 := iabs_bd (x := g) (M := 1000) ⟨g0, g1⟩
  have h5 := mul_bd (a := iabs g) (b := corr xs 0 - side xs) (A := 1000) (B := 800000000) (by omega) (by omega)
  have h6 := mul_bd (a := 2 * e) (b := wt xs) (A := 2000) (B := 400000) (by omega) (by omega)
  have HF : Hid (clear xs g e = decide (2 * e * wt xs < iabs g * (corr xs 0 - side xs))) := rfl
  go_enter Try.func99, Try.ntmps99
  go_wp2_with (first | (go_at_call 82; refine (iAbs_any _ _ (by omega) (by omega)).mono ?_; rintro en w1 ⟨rfl, rfl⟩) | (go_at_call 94; refine (iCorr0_any _ _ _ _ _ (by assumption) (by omega) (by assumption) (by first | assumption | exact Rd.drewN (by assumption) _ | exact Rd.drewN (Rd.drewN (by assumption) _) _)).mono ?_; rintro en w1 ⟨rfl, mq, rfl⟩) | (go_at_call 104; refine (iSide_any _ _ _ _ _ (by assumption) (by omega) (by assumption) (by first | assumption | exact Rd.drewN (by assumption) _ | exact Rd.drewN (Rd.drewN (by assumption) _) _)).mono ?_; rintro en w1 ⟨rfl, mq, rfl⟩) | (go_at_call 87; refine (iWt_any _ _ _ _ _ (by assumption) (by omega) (by assumption) (by first | assumption | exact Rd.drewN (by assumption) _ | exact Rd.drewN (Rd.drewN (by assumption) _) _)).mono ?_; rintro en w1 ⟨rfl, rfl⟩))
  go_ret
  exact ⟨by rw [HF.out]; rfl, by first | exact ⟨_, rfl⟩ | exact ⟨0, rfl⟩⟩

set_option maxHeartbeats 2000000 in
theorem sClr_any (A : Option Addr) (n c : Nat) (xs : List Int) (g e : Int) (w : World) (hn : xs.length = n) (hm : n ≤ 400) (hb : Hid (Sig xs)) (g0 : -1000 ≤ g) (g1 : g ≤ 1000) (e0 : 0 ≤ e) (e1 : e ≤ 1000) (hr : Rd w A xs) :
    Calls Try.prog 98 #[.slice A n c, .int .i64 g, .int .i64 e] w fun en w9 => en = .returned (.bool (clear xs g e)) ∧ ∃ m, w9 = w.drewN m := by
  have hl : xs.length ≤ 400 := by omega
  have h1 := corr_bd hb.out hl 0
  have h2 := side_bd hb.out hl
  have h3 := wt_bd hb.out hl
  have h4 := iabs_bd (x := g) (M := 1000) ⟨g0, g1⟩
  have h5 := mul_bd (a := iabs g) (b := corr xs 0 - side xs) (A := 1000) (B := 800000000) (by omega) (by omega)
  have h6 := mul_bd (a := 2 * e) (b := wt xs) (A := 2000) (B := 400000) (by omega) (by omega)
  have HF : Hid (clear xs g e = decide (2 * e * wt xs < iabs g * (corr xs 0 - side xs))) := rfl
  go_enter Try.func98, Try.ntmps98
  go_wp2_with (first | (go_at_call 75; refine (sAbs_any _ _ (by omega) (by omega)).mono ?_; rintro en w1 ⟨rfl, rfl⟩) | (go_at_call 93; refine (sCorr0_any _ _ _ _ _ (by assumption) (by omega) (by assumption) (by first | assumption | exact Rd.drewN (by assumption) _ | exact Rd.drewN (Rd.drewN (by assumption) _) _)).mono ?_; rintro en w1 ⟨rfl, mq, rfl⟩) | (go_at_call 108; refine (sSide_any _ _ _ _ _ (by assumption) (by omega) (by assumption) (by first | assumption | exact Rd.drewN (by assumption) _ | exact Rd.drewN (Rd.drewN (by assumption) _) _)).mono ?_; rintro en w1 ⟨rfl, mq, rfl⟩) | (go_at_call 86; refine (sWt_any _ _ _ _ _ (by assumption) (by omega) (by assumption) (by first | assumption | exact Rd.drewN (by assumption) _ | exact Rd.drewN (Rd.drewN (by assumption) _) _)).mono ?_; rintro en w1 ⟨rfl, rfl⟩))
  go_ret
  exact ⟨by rw [HF.out]; rfl, by first | exact ⟨_, rfl⟩ | exact ⟨0, rfl⟩⟩
set_option maxHeartbeats 2000000 in
theorem iClear_any (A : Option Addr) (n c : Nat) (xs : List Int) (g e : Int) (w : World) (hn : xs.length = n) (hnc : n ≤ c) (hm : n ≤ 1048576) (hr : Rd w A xs) :
    Calls Try.prog 42 #[.slice A n c, .int .i64 g, .int .i64 e] w fun en w9 => en = .returned (.tuple #[.bool (clrVal xs g e), .int .i64 (clrCode xs g e)]) ∧ ∃ m, w9 = w.drewN m := by

  rcases Bool.eq_false_or_eq_true (isSig xs) with h | h
  · have hs := isSig_iff.1 h
    have hl : n ≤ 400 := by rw [← hn]; exact hs.1
    have HB := Lib.hid hs.2
    clear hs
    rcases Bool.eq_false_or_eq_true (inR g (-1000) 1000) with h1 | h1
    · rcases Bool.eq_false_or_eq_true (inR e 0 1000) with h2 | h2
      · have HV : Hid (clrVal xs g e = clear xs g e ∧ clrCode xs g e = 0) := by show _ ∧ _; simp [clrVal, clrCode, h, h1, h2]
        have g2 := inR_iff.1 h1
        have e2 := inR_iff.1 h2
        go_enter Try.func42, Try.ntmps42; go_wp2_with (first | (go_at_call 58; refine (iSig_any _ _ _ _ _ (by assumption) (by assumption) (by omega) (by first | assumption | exact Rd.drewN (by assumption) _ | exact Rd.drewN (Rd.drewN (by assumption) _) _)).mono ?_; rintro en w1 ⟨rfl, rfl⟩) | (go_at_call 79; refine (within_any _ _ _ _).mono ?_; rintro en w1 ⟨rfl, rfl⟩) | (go_at_call 99; refine (iClr_any _ _ _ _ _ _ _ (by assumption) (by omega) (by assumption) (by omega) (by omega) (by omega) (by omega) (by first | assumption | exact Rd.drewN (by assumption) _ | exact Rd.drewN (Rd.drewN (by assumption) _) _)).mono ?_; rintro en w1 ⟨rfl, mq, rfl⟩)); go_ret2; exact ⟨by rw [HV.out.1, HV.out.2]; rfl, (by first | exact ⟨_, rfl⟩ | exact ⟨0, rfl⟩)⟩
      · have HV : Hid (clrVal xs g e = false ∧ clrCode xs g e = 2) := by show _ ∧ _; simp [clrVal, clrCode, h, h1, h2]
        go_enter Try.func42, Try.ntmps42; go_wp2_with (first | (go_at_call 58; refine (iSig_any _ _ _ _ _ (by assumption) (by assumption) (by omega) (by first | assumption | exact Rd.drewN (by assumption) _ | exact Rd.drewN (Rd.drewN (by assumption) _) _)).mono ?_; rintro en w1 ⟨rfl, rfl⟩) | (go_at_call 79; refine (within_any _ _ _ _).mono ?_; rintro en w1 ⟨rfl, rfl⟩) | (go_at_call 99; refine (iClr_any _ _ _ _ _ _ _ (by assumption) (by omega) (by assumption) (by omega) (by omega) (by omega) (by omega) (by first | assumption | exact Rd.drewN (by assumption) _ | exact Rd.drewN (Rd.drewN (by assumption) _) _)).mono ?_; rintro en w1 ⟨rfl, mq, rfl⟩)); go_ret2; exact ⟨by rw [HV.out.1, HV.out.2]; rfl, (by first | exact ⟨_, rfl⟩ | exact ⟨0, rfl⟩)⟩
    · have HV : Hid (clrVal xs g e = false ∧ clrCode xs g e = 2) := by show _ ∧ _; simp [clrVal, clrCode, h, h1]
      go_enter Try.func42, Try.ntmps42; go_wp2_with (first | (go_at_call 58; refine (iSig_any _ _ _ _ _ (by assumption) (by assumption) (by omega) (by first | assumption | exact Rd.drewN (by assumption) _ | exact Rd.drewN (Rd.drewN (by assumption) _) _)).mono ?_; rintro en w1 ⟨rfl, rfl⟩) | (go_at_call 79; refine (within_any _ _ _ _).mono ?_; rintro en w1 ⟨rfl, rfl⟩) | (go_at_call 99; refine (iClr_any _ _ _ _ _ _ _ (by assumption) (by omega) (by assumption) (by omega) (by omega) (by omega) (by omega) (by first | assumption | exact Rd.drewN (by assumption) _ | exact Rd.drewN (Rd.drewN (by assumption) _) _)).mono ?_; rintro en w1 ⟨rfl, mq, rfl⟩)); go_ret2; exact ⟨by rw [HV.out.1, HV.out.2]; rfl, (by first | exact ⟨_, rfl⟩ | exact ⟨0, rfl⟩)⟩
  · have HV : Hid (clrVal xs g e = false ∧ clrCode xs g e = 1) := by show _ ∧ _; simp [clrVal, clrCode, h]
    go_enter Try.func42, Try.ntmps42; go_wp2_with (first | (go_at_call 58; refine (iSig_any _ _ _ _ _ (by assumption) (by assumption) (by omega) (by first | assumption | exact Rd.drewN (by assumption) _ | exact Rd.drewN (Rd.drewN (by assumption) _) _)).mono ?_; rintro en w1 ⟨rfl, rfl⟩) | (go_at_call 79; refine (within_any _ _ _ _).mono ?_; rintro en w1 ⟨rfl, rfl⟩) | (go_at_call 99; refine (iClr_any _ _ _ _ _ _ _ (by assumption) (by omega) (by assumption) (by omega) (by omega) (by omega) (by omega) (by first | assumption | exact Rd.drewN (by assumption) _ | exact Rd.drewN (Rd.drewN (by assumption) _) _)).mono ?_; rintro en w1 ⟨rfl, mq, rfl⟩)); go_ret2; exact ⟨by rw [HV.out.1, HV.out.2]; rfl, (by first | exact ⟨_, rfl⟩ | exact ⟨0, rfl⟩)⟩
set_option maxHeartbeats 2000000 in
theorem sClear_any (A : Option Addr) (n c : Nat) (xs : List Int) (g e : Int) (w : World) (hn : xs.length = n) (hnc : n ≤ c) (hm : n ≤ 1048576) (hr : Rd w A xs) :
    Calls Try.prog 41 #[.slice A n c, .int .i64 g, .int .i64 e] w fun en w9 => en = .returned (.tuple #[.bool (clrVal xs g e), .int .i64 (clrCode xs g e)]) ∧ ∃ m, w9 = w.drewN m := by

  rcases Bool.eq_false_or_eq_true (isSig xs) with h | h
  · have hs := isSig_iff.1 h
    have hl : n ≤ 400 := by rw [← hn]; exact hs.1
    have HB := Lib.hid hs.2
    clear hs
    rcases Bool.eq_false_or_eq_true (inR g (-1000) 1000) with h1 | h1
    · rcases Bool.eq_false_or_eq_true (inR e 0 1000) with h2 | h2
      · have HV : Hid (clrVal xs g e = clear xs g e ∧ clrCode xs g e = 0) := by show _ ∧ _; simp [clrVal, clrCode, h, h1, h2]
        have g2 := inR_iff.1 h1
        have e2 := inR_iff.1 h2
        go_enter Try.func41, Try.ntmps41; go_wp2_with (first | (go_at_call 85; refine (sSig_any _ _ _ _ _ (by assumption) (by assumption) (by omega) (by first | assumption | exact Rd.drewN (by assumption) _ | exact Rd.drewN (Rd.drewN (by assumption) _) _)).mono ?_; rintro en w1 ⟨rfl, rfl⟩) | (go_at_call 74; refine (l01In_any _ _ _ _).mono ?_; rintro en w1 ⟨rfl, rfl⟩) | (go_at_call 98; refine (sClr_any _ _ _ _ _ _ _ (by assumption) (by omega) (by assumption) (by omega) (by omega) (by omega) (by omega) (by first | assumption | exact Rd.drewN (by assumption) _ | exact Rd.drewN (Rd.drewN (by assumption) _) _)).mono ?_; rintro en w1 ⟨rfl, mq, rfl⟩)); go_ret2; exact ⟨by rw [HV.out.1, HV.out.2]; rfl, (by first | exact ⟨_, rfl⟩ | exact ⟨0, rfl⟩)⟩
      · have HV : Hid (clrVal xs g e = false ∧ clrCode xs g e = 2) := by show _ ∧ _; simp [clrVal, clrCode, h, h1, h2]
        go_enter Try.func41, Try.ntmps41; go_wp2_with (first | (go_at_call 85; refine (sSig_any _ _ _ _ _ (by assumption) (by assumption) (by omega) (by first | assumption | exact Rd.drewN (by assumption) _ | exact Rd.drewN (Rd.drewN (by assumption) _) _)).mono ?_; rintro en w1 ⟨rfl, rfl⟩) | (go_at_call 74; refine (l01In_any _ _ _ _).mono ?_; rintro en w1 ⟨rfl, rfl⟩) | (go_at_call 98; refine (sClr_any _ _ _ _ _ _ _ (by assumption) (by omega) (by assumption) (by omega) (by omega) (by omega) (by omega) (by first | assumption | exact Rd.drewN (by assumption) _ | exact Rd.drewN (Rd.drewN (by assumption) _) _)).mono ?_; rintro en w1 ⟨rfl, mq, rfl⟩)); go_ret2; exact ⟨by rw [HV.out.1, HV.out.2]; rfl, (by first | exact ⟨_, rfl⟩ | exact ⟨0, rfl⟩)⟩
    · have HV : Hid (clrVal xs g e = false ∧ clrCode xs g e = 2) := by show _ ∧ _; simp [clrVal, clrCode, h, h1]
      go_enter Try.func41, Try.ntmps41; go_wp2_with (first | (go_at_call 85; refine (sSig_any _ _ _ _ _ (by assumption) (by assumption) (by omega) (by first | assumption | exact Rd.drewN (by assumption) _ | exact Rd.drewN (Rd.drewN (by assumption) _) _)).mono ?_; rintro en w1 ⟨rfl, rfl⟩) | (go_at_call 74; refine (l01In_any _ _ _ _).mono ?_; rintro en w1 ⟨rfl, rfl⟩) | (go_at_call 98; refine (sClr_any _ _ _ _ _ _ _ (by assumption) (by omega) (by assumption) (by omega) (by omega) (by omega) (by omega) (by first | assumption | exact Rd.drewN (by assumption) _ | exact Rd.drewN (Rd.drewN (by assumption) _) _)).mono ?_; rintro en w1 ⟨rfl, mq, rfl⟩)); go_ret2; exact ⟨by rw [HV.out.1, HV.out.2]; rfl, (by first | exact ⟨_, rfl⟩ | exact ⟨0, rfl⟩)⟩
  · have HV : Hid (clrVal xs g e = false ∧ clrCode xs g e = 1) := by show _ ∧ _; simp [clrVal, clrCode, h]
    go_enter Try.func41, Try.ntmps41; go_wp2_with (first | (go_at_call 85; refine (sSig_any _ _ _ _ _ (by assumption) (by assumption) (by omega) (by first | assumption | exact Rd.drewN (by assumption) _ | exact Rd.drewN (Rd.drewN (by assumption) _) _)).mono ?_; rintro en w1 ⟨rfl, rfl⟩) | (go_at_call 74; refine (l01In_any _ _ _ _).mono ?_; rintro en w1 ⟨rfl, rfl⟩) | (go_at_call 98; refine (sClr_any _ _ _ _ _ _ _ (by assumption) (by omega) (by assumption) (by omega) (by omega) (by omega) (by omega) (by first | assumption | exact Rd.drewN (by assumption) _ | exact Rd.drewN (Rd.drewN (by assumption) _) _)).mono ?_; rintro en w1 ⟨rfl, mq, rfl⟩)); go_ret2; exact ⟨by rw [HV.out.1, HV.out.2]; rfl, (by first | exact ⟨_, rfl⟩ | exact ⟨0, rfl⟩)⟩
end Go.Proofs.Ytgfhmihnnjcagaa
