/- walks: BestBeam, the reference -/
import Derived.Test.YtfmhbphbgdijpaaW19
set_option linter.unusedVariables false
set_option linter.unusedSimpArgs false
namespace Go.Proofs.Ytfmhbphbgdijpaa
open Go.RowKit

set_option maxRecDepth 100000 in
set_option maxHeartbeats 8000000 in
theorem sBb_any (A : Option Addr) (n c : Nat) (rows : List (List Int)) (B : Option Addr) (p d : Nat) (xs : List Int) (D : Option Addr) (m dc : Nat) (f g e : Nat → Int) (r v : Int) (w : World) (hn : rows.length = n) (hm : n ≤ 1048576) (hrow : ∀ k, k < n → (rows.getD k []).length ≤ 1048576) (hr : RdM w A rows) (hp : xs.length = p) (hpd : p ≤ d) (hm2 : p ≤ 1048576) (hr2 : Rd w B xs) (hm3 : m ≤ 1048576) (hr3 : RdD w D m f g e) :
    Calls Try.prog 26 #[.slice A n c, .slice B p d, .slice D m dc, .int .i64 r, .int .i64 v] w fun en w9 => en = .returned (.tuple #[.int .i64 (bbVal rows xs m f g e r v), .int .i64 (bbCode rows xs m f g e r v)]) ∧ Below w.heap.size w w9 := by
  have HR := Lib.hid hr; have HR2 := Lib.hid hr2; have HR3 := Lib.hid hr3; have HN := Lib.hid hn; have HP := Lib.hid hp; have HRW := Lib.hid hrow
  clear hr hr2 hr3 hn hp hrow
  go_enter Try.func26, Try.ntmps26
  go_wp2_with fail
  refine (sCh_any A n c rows _ HN.out hm HRW.out HR.out).mono ?_
  rintro en w1 ⟨rfl, mq, hq⟩
  have hB1 := bquiet hq
  clear hq
  rcases Bool.eq_false_or_eq_true (isChans rows) with g1 | g1
  rotate_left
  · have HV : Hid (bbVal rows xs m f g e r v = 0 ∧ bbCode rows xs m f g e r v = 1) := bb_no (by unfold bbCode; rw [g1]; rfl) (by decide)
    go_wp2
    go_ret2
    exact ⟨by rw [HV.out.1, HV.out.2]; rfl, hB1⟩
  have hch := isChans_iff.1 g1
  rw [HN.out] at hch
  have HCH := Lib.hid hch
  have hn12 := hch.2.2.1
  clear hch
  go_wp2_with fail
  refine (sArr_any B p d xs _ HP.out hpd hm2 (HR2.out.below hB1)).mono ?_
  rintro en w2 ⟨rfl, mq2, hq⟩
  have hB2 := bseq hB1 (bquiet hq)
  clear hq
  rcases Bool.eq_false_or_eq_true (isArr xs) with g2 | g2
  rotate_left
  · have HV : Hid (bbVal rows xs m f g e r v = 0 ∧ bbCode rows xs m f g e r v = 1) := bb_no (by unfold bbCode; rw [g1, g2]; rfl) (by decide)
    go_wp2
    go_ret2
    exact ⟨by rw [HV.out.1, HV.out.2]; rfl, hB2⟩
  have hxa := isArr_bd g2
  rw [HP.out] at hxa
  have HXB := Lib.hid hxa.2
  have hp12 := hxa.1
  clear hxa
  go_wp2
  go_loopw [12] (fun i wr => ∃ k : Nat, k ≤ m ∧ i = .int .i64 (k : Int) ∧ Hid (allDir f g e k = true) ∧ Below w.heap.size w wr) (fun i _ => m - (intOf i).toNat)
  case atStart => exact ⟨0, Nat.zero_le _, rfl, rfl, hB2⟩
  case round =>
  obtain ⟨k0, hk0, rfl, HAD0, hB3⟩ := hrel
  obtain ⟨w3, hw3⟩ : ∃ w3 : World, w3 = wr := ⟨_, rfl⟩
  subst hw3
  by_cases hlt0 : k0 < m
  · rcases HR3.out with h0 | ⟨b, off, hD, hc⟩
    · exfalso; omega
    subst hD
    obtain ⟨hx0, hy0, hz0⟩ := hc k0 hlt0
    have hx := later hB3 hx0
    have hy := later hB3 hy0
    have hz := later hB3 hz0
    have HNX : Hid (isDir (f k0) (g k0) (e k0) = false → allDir f g e m = false) := fun h => allDir_out h hlt0
    have HYX : Hid (isDir (f k0) (g k0) (e k0) = true → allDir f g e (k0 + 1) = true) := by
      show _ → _
      intro h; simp only [allDir, HAD0.out, h, Bool.and_self]
    clear hx0 hy0 hz0 hc
    obtain ⟨x, hxx⟩ : ∃ x, x = f k0 := ⟨_, rfl⟩
    obtain ⟨y, hyy⟩ : ∃ y, y = g k0 := ⟨_, rfl⟩
    obtain ⟨z, hzz⟩ : ∃ z, z = e k0 := ⟨_, rfl⟩
    rw [← hxx] at hx HNX HYX; rw [← hyy] at hy HNX HYX; rw [← hzz] at hz HNX HYX
    clear hxx hyy hzz
    have hi1 : (k0 : Int) < m := by omega
    go_wp2_with fail
    refine (sDir_any x y z _).mono ?_
    rintro en w4 ⟨rfl, hb4⟩
    have hB4 := bseq hB3 hb4
    rcases Bool.eq_false_or_eq_true (isDir x y z) with hd | hd
    · have HDD := Lib.hid (HYX.out hd)
      clear HNX HYX
      rw [hd]
      go_wp2
      go_roundw
      case rel => exact ⟨k0 + 1, by omega, by go_num, HDD, hB4⟩
      case measure => simp [intOf]; omega
    · have hDD := HNX.out hd
      have HV : Hid (bbVal rows xs m f g e r v = 0 ∧ bbCode rows xs m f g e r v = 1) := bb_no (by unfold bbCode; rw [g1, g2, hDD]; rfl) (by decide)
      clear HNX HYX
      rw [hd]
      go_wp2
      go_ret2
      exact ⟨by rw [HV.out.1, HV.out.2]; rfl, hB4⟩
  obtain rfl : m = k0 := by omega
  have HAD : Hid (allDir f g e m = true) := HAD0
  clear HAD0
  rcases Bool.eq_false_or_eq_true (okWave r v) with g4 | g4
  rotate_left
  · have HV : Hid (bbVal rows xs m f g e r v = 0 ∧ bbCode rows xs m f g e r v = 2) := bb_no (by unfold bbCode; rw [g1, g2, HAD.out, g4]; rfl) (by decide)
    go_wp2_with (first | (go_at_call 79; refine (sWave_any _ _ _).mono ?_; rintro en w1 ⟨rfl, rfl⟩))
    go_ret2
    exact ⟨by rw [HV.out.1, HV.out.2]; rfl, hB3⟩
  by_cases g5 : p = n
  rotate_left
  · have hb5 : ((p : Int) != n) = true := by simp; omega
    have HV : Hid (bbVal rows xs m f g e r v = 0 ∧ bbCode rows xs m f g e r v = 2) := bb_no (by unfold bbCode; rw [g1, g2, HAD.out, g4, HN.out, HP.out, decide_eq_false g5]; rfl) (by decide)
    go_wp2_with (first | (go_at_call 79; refine (sWave_any _ _ _).mono ?_; rintro en w1 ⟨rfl, rfl⟩))
    go_ret2
    exact ⟨by rw [HV.out.1, HV.out.2]; rfl, hB3⟩
  have hb5 : ((p : Int) != n) = false := by simp; omega
  by_cases g6 : m ≤ 40
  rotate_left
  · have hb6 : (40 : Int) < m := by omega
    have HV : Hid (bbVal rows xs m f g e r v = 0 ∧ bbCode rows xs m f g e r v = 2) := bb_no (by unfold bbCode; rw [g1, g2, HAD.out, g4, HN.out, HP.out, decide_eq_true g5, decide_eq_false g6]; rfl) (by decide)
    clear g5
    go_wp2_with (first | (go_at_call 79; refine (sWave_any _ _ _).mono ?_; rintro en w1 ⟨rfl, rfl⟩))
    go_ret2
    exact ⟨by rw [HV.out.1, HV.out.2]; rfl, hB3⟩
  have hb6 : ¬ (40 : Int) < m := by omega
  have HCD : Hid (bbCode rows xs m f g e r v = if m = 0 then 4 else 0) := by show _ = _; unfold bbCode; rw [g1, g2, HAD.out, g4, HN.out, HP.out, decide_eq_true g5, decide_eq_true g6]; rfl
  have HG5 := Lib.hid g5
  clear g5
  have hwv := g4
  simp only [okWave, Bool.and_eq_true] at hwv
  have hrb := inR_iff.1 hwv.1
  have hvb := inR_iff.1 hwv.2
  clear hwv
  go_wp2_with (first | (go_at_call 79; refine (sWave_any _ _ _).mono ?_; rintro en w1 ⟨rfl, rfl⟩))
  go_loopw [13, 14, 15] (fun b q i wr => ∃ k : Nat, k ≤ m ∧ i = .int .i64 (k : Int) ∧ b = .int .i64 ((bbTo rows xs r v g e k).1 : Nat) ∧ q = .int .i64 (bbTo rows xs r v g e k).2 ∧ Below w.heap.size w wr) (fun _ _ i _ => m - (intOf i).toNat)
  case atStart => exact ⟨0, Nat.zero_le _, rfl, rfl, rfl, hB3⟩
  case round =>
    obtain ⟨k, hk, rfl, rfl, rfl, hbel⟩ := hrel
    have hbb := bbTo_bd rows xs r v g e k
    by_cases hlt : k < m
    · rcases HR3.out with h0 | ⟨b, off, hD, hc⟩
      · exfalso; omega
      subst hD
      obtain ⟨hx0, hy0, hz0⟩ := hc k hlt
      have hx := later hbel hx0
      have hy := later hbel hy0
      have hz := later hbel hz0
      have hdk := allDir_at HAD.out hlt
      have HUP : Hid (bbTo rows xs r v g e (k + 1) = if (bbTo rows xs r v g e k).2 < bbPw rows xs r v g e k then (k, bbPw rows xs r v g e k) else bbTo rows xs r v g e k) := rfl
      have HPW : Hid (bbPw rows xs r v g e k = corr (bVal rows (dlys xs (10 * r * g k) (e k * v))) 0) := rfl
      have hpn := bbPw_nn rows xs r v g e k
      clear hx0 hy0 hz0 hc
      obtain ⟨x, hxx⟩ : ∃ x, x = f k := ⟨_, rfl⟩
      obtain ⟨y, hyy⟩ : ∃ y, y = g k := ⟨_, rfl⟩
      obtain ⟨z, hzz⟩ : ∃ z, z = e k := ⟨_, rfl⟩
      rw [← hxx] at hx hdk; rw [← hyy] at hy hdk HPW; rw [← hzz] at hz hdk HPW
      clear hxx hyy hzz
      obtain ⟨T, hT⟩ : ∃ T, T = bbTo rows xs r v g e k := ⟨_, rfl⟩
      obtain ⟨Q, hQ⟩ : ∃ Q, Q = bbPw rows xs r v g e k := ⟨_, rfl⟩
      rw [← hT] at hbb HUP ⊢
      rw [← hQ] at HUP HPW hpn
      have HTT := Lib.hid hT
      clear hT hQ
      have hdb := isDir_bd hdk
      have HDS : Hid (Bd 1000000 (dlys xs (10 * r * y) (z * v))) := dlys_small hdk hrb hvb HXB.out
      have HDL : Hid ((dlys xs (10 * r * y) (z * v)).length = n) := by show _ = _; rw [dlys_len, HP.out]; exact HG5.out
      have HBL : Hid ((bVal rows (dlys xs (10 * r * y) (z * v))).length = (rows.getD 0 []).length) := bVal_len rfl
      have HBB : Hid (Bd 12000 (bVal rows (dlys xs (10 * r * y) (z * v)))) := bVal_bd HCH.out
      have hi1 : (k : Int) < m := by omega
      have hz9 := hbel.size
      go_wp2_with fail
      have hb4 : Below wr.heap.size wr wr := Below.refl _ _
      obtain ⟨w4, hw4⟩ : ∃ w4 : World, w4 = wr := ⟨_, rfl⟩
      subst hw4
      have hBA := bseq hbel hb4
      have hzA := hBA.size
      refine (sDly_any B p d xs x y z r v _ HP.out (by omega) HXB hdb.2.1 hdb.2.2 hrb hvb (HR2.out.below hBA)).mono ?_
      rintro en w5 ⟨A5, c5, rfl, hR5, hbd5⟩
      have hpn9 : n = p := HG5.out.symm
      subst hpn9
      have hBB := bseq hBA hbd5
      go_wp2_with fail
      refine (sBeam_any A n c rows A5 c5 (dlys xs (10 * r * y) (z * v)) (rows.getD 0 []).length _ HN.out HCH HDL.out HDS (HR.out.below hBB) (by have := hR5.rd; exact this)).mono ?_
      rintro en w6 ⟨A6, c6, rfl, hR6, hb6'⟩
      have hBC := bseq hBB hb6'
      clear hR5
      go_wp2_with fail
      refine (sPow_any A6 (rows.getD 0 []).length c6 (bVal rows (dlys xs (10 * r * y) (z * v))) _ HBL.out HCH.out.2.2.2.1 HBB hR6.rd).mono ?_
      rintro en w7 ⟨rfl, mq7, hq7⟩
      have hBD : Below w.heap.size w w7 := bseq hBC (bquiet hq7)
      clear hq7 hR6
      rw [← HPW.out]
      rcases Int.lt_or_le T.2 Q with hTQ | hTQ
      · have HU2 : Hid (bbTo rows xs r v g e (k + 1) = (k, Q)) := by show _ = _; rw [HUP.out, if_pos hTQ]
        clear HUP
        go_wp2
        go_roundw
        case rel => exact ⟨k + 1, by omega, by go_num, by rw [HU2.out], by rw [HU2.out], hBD⟩
        case measure => simp [intOf]; omega
      · have HU2 : Hid (bbTo rows xs r v g e (k + 1) = T) := by show _ = _; rw [HUP.out, if_neg (by omega)]
        clear HUP
        go_wp2
        go_roundw
        case rel => exact ⟨k + 1, by omega, by go_num, by rw [HU2.out], by rw [HU2.out], hBD⟩
        case measure => simp [intOf]; omega
    · obtain rfl : k = m := by omega
      by_cases g7 : k = 0
      · have HV : Hid (bbVal rows xs k f g e r v = 0 ∧ bbCode rows xs k f g e r v = 4) := bb_no (by rw [HCD.out, if_pos g7]) (by decide)
        subst g7
        have hlt9 : (bbTo rows xs r v g e 0).2 < 0 := by show (-1 : Int) < 0; decide
        go_wp2
        go_ret2
        exact ⟨by rw [HV.out.1, HV.out.2]; rfl, hbel⟩
      have hnn9 := bbTo_pos rows xs r v g e (k := k) (by omega)
      have HV : Hid (bbVal rows xs k f g e r v = (bbTo rows xs r v g e k).1 ∧ bbCode rows xs k f g e r v = 0) := by
        have h0 : bbCode rows xs k f g e r v = 0 := by rw [HCD.out, if_neg g7]
        exact ⟨by unfold bbVal; rw [if_pos h0], h0⟩
      go_wp2
      go_ret2
      exact ⟨by rw [HV.out.1, HV.out.2]; rfl, hbel⟩
end Go.Proofs.Ytfmhbphbgdijpaa
