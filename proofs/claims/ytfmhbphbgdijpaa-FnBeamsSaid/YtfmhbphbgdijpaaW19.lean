/- walks: BestBeam -/
import Derived.Test.YtfmhbphbgdijpaaPlainBB
import Derived.Test.YtfmhbphbgdijpaaW18
import Derived.Test.YtfmhbphbgdijpaaW13
import Derived.Test.YtfmhbphbgdijpaaW9
set_option linter.unusedVariables false
set_option linter.unusedSimpArgs false
namespace Go.Proofs.Ytfmhbphbgdijpaa
open Go.RowKit

theorem clo_any (x y z : Int) (w : World) : Calls Try.prog 73 #[.agg #[.int .i64 x, .int .i64 y, .int .i64 z]] w fun en w9 => en = .returned (.bool (!isDir x y z)) ∧ Below w.heap.size w w9 := by
  go_enter Try.func73, Try.ntmps73
  go_wp2_with fail
  refine (iDir_any x y z _).mono ?_
  rintro en w1 ⟨rfl, hb⟩
  have hB := Below.trans (Below.alloc (Below.refl w.heap.size w) (Nat.le_refl _) _) (hb.mono (by simp))
  go_wp2
  go_ret
  exact ⟨rfl, hB⟩
set_option maxHeartbeats 2000000 in
theorem index_any (A : Option Addr) (n c : Nat) (f g e : Nat → Int) (w : World) (hm : n ≤ 1048576) (hr : RdD w A n f g e) :
    Calls Try.prog 95 #[.slice A n c, .func (.func 73) #[] #[]] w fun en w9 => ∃ z : Int, en = .returned (.int .i64 z) ∧ (allDir f g e n = true → z = -1) ∧ (allDir f g e n = false → 0 ≤ z) ∧ Below w.heap.size w w9 := by
  rcases hr with rfl | ⟨b, off, rfl, hc⟩
  · go_enter Try.func95, Try.ntmps95
    go_wp2
    refine wp_loop_rounds 1 ?_
    rw [rounds_succ]
    go_wp2
    go_ret
    exact ⟨-1, rfl, fun _ => rfl, (fun h => by cases h), Below.refl _ _⟩
  have HC := Lib.hid hc; clear hc
  go_enter Try.func95, Try.ntmps95
  go_wp2
  go_loopw [8] (fun i wr => ∃ k : Nat, k ≤ n ∧ i = .int .i64 (k : Int) ∧ Hid (allDir f g e k = true) ∧ Below w.heap.size w wr) (fun i _ => n - (intOf i).toNat)
  case atStart => exact ⟨0, Nat.zero_le _, rfl, rfl, Below.refl _ _⟩
  case round =>
    obtain ⟨k, hk, rfl, HK, hbel⟩ := hrel
    by_cases hlt : k < n
    · obtain ⟨hx0, hy0, hz0⟩ := HC.out k hlt
      have hx := later hbel hx0
      have hy := later hbel hy0
      have hz := later hbel hz0
      have HN : Hid (isDir (f k) (g k) (e k) = false → allDir f g e n = false) := fun h => allDir_out h hlt
      have HY : Hid (isDir (f k) (g k) (e k) = true → allDir f g e (k + 1) = true) := by
        show _ → _
        intro h; simp only [allDir, HK.out, h, Bool.and_self]
      clear hx0 hy0 hz0
      generalize f k = x at *
      generalize g k = y at *
      generalize e k = z at *
      have hi1 : (k : Int) < n := by omega
      rcases Bool.eq_false_or_eq_true (isDir x y z) with hd | hd
      · have HD := Lib.hid (HY.out hd)
        clear HN HY
        go_wp2_with fail
        refine (clo_any x y z _).mono ?_
        rintro en w1 ⟨rfl, hb1⟩
        have hbel2 := bseq hbel hb1
        rw [hd]
        go_wp2
        go_roundw
        case rel => exact ⟨k + 1, by omega, by go_num, HD, hbel2⟩
        case measure => simp [intOf]; omega
      · have HD := Lib.hid (HN.out hd)
        clear HN HY
        go_wp2_with fail
        refine (clo_any x y z _).mono ?_
        rintro en w1 ⟨rfl, hb1⟩
        have hbel2 := bseq hbel hb1
        rw [hd]
        go_wp2
        go_ret
        exact ⟨k, rfl, (fun h => by rw [HD.out] at h; cases h), (fun _ => by omega), hbel2⟩
    · obtain rfl : k = n := by omega
      go_wp2
      go_ret
      exact ⟨-1, rfl, fun _ => rfl, (fun h => by rw [HK.out] at h; cases h), hbel⟩
theorem cont_any (A : Option Addr) (n c : Nat) (f g e : Nat → Int) (w : World) (hm : n ≤ 1048576) (hr : RdD w A n f g e) :
    Calls Try.prog 72 #[.slice A n c, .func (.func 73) #[] #[]] w fun en w9 => en = .returned (.bool (!allDir f g e n)) ∧ Below w.heap.size w w9 := by
  rcases Bool.eq_false_or_eq_true (allDir f g e n) with h | h
  · rw [h]
    go_enter Try.func72, Try.ntmps72
    go_wp2_with fail
    refine (index_any A n c f g e _ hm hr).mono ?_
    rintro en w1 ⟨z, rfl, h1, h2, hb⟩
    have hz := h1 h
    subst hz
    clear h1 h2
    go_wp2
    go_ret
    exact ⟨rfl, hb⟩
  · rw [h]
    go_enter Try.func72, Try.ntmps72
    go_wp2_with fail
    refine (index_any A n c f g e _ hm hr).mono ?_
    rintro en w1 ⟨z, rfl, h1, h2, hb⟩
    have hz := h2 h
    clear h1 h2
    go_wp2
    go_ret
    exact ⟨rfl, hb⟩

set_option maxRecDepth 100000 in
set_option maxHeartbeats 8000000 in
theorem iBb_any (A : Option Addr) (n c : Nat) (rows : List (List Int)) (B : Option Addr) (p d : Nat) (xs : List Int) (D : Option Addr) (m dc : Nat) (f g e : Nat → Int) (r v : Int) (w : World) (hn : rows.length = n) (hm : n ≤ 1048576) (hrow : ∀ k, k < n → (rows.getD k []).length ≤ 1048576) (hr : RdM w A rows) (hp : xs.length = p) (hpd : p ≤ d) (hm2 : p ≤ 1048576) (hr2 : Rd w B xs) (hm3 : m ≤ 1048576) (hr3 : RdD w D m f g e) :
    Calls Try.prog 25 #[.slice A n c, .slice B p d, .slice D m dc, .int .i64 r, .int .i64 v] w fun en w9 => en = .returned (.tuple #[.int .i64 (bbVal rows xs m f g e r v), .int .i64 (bbCode rows xs m f g e r v)]) ∧ Below w.heap.size w w9 := by
  have HR := Lib.hid hr; have HR2 := Lib.hid hr2; have HR3 := Lib.hid hr3; have HN := Lib.hid hn; have HP := Lib.hid hp; have HRW := Lib.hid hrow
  clear hr hr2 hr3 hn hp hrow
  go_enter Try.func25, Try.ntmps25
  go_wp2_with fail
  refine (iCh_any A n c rows _ HN.out hm HRW.out HR.out).mono ?_
  rintro en w1 ⟨rfl, mq, hq⟩
  have hB1 := bquiet hq
  clear hq
  rcases Bool.eq_false_or_eq_true (isChans rows) with g1 | g1
  rotate_left
  · have HV : Hid (bbVal rows xs m f g e r v = 0 ∧ bbCode rows xs m f g e r v = 1) := bb_no (by unfold bbCode; rw [g1]; rfl) (by decide)
    go_wp2
    go_ret2
    exact ⟨by rw [HV.out.1, HV.out.2]; rfl, hB1⟩
  have hch := isChans_iff.1 g1
  rw [HN.out] at hch
  have HCH := Lib.hid hch
  have hn12 := hch.2.2.1
  clear hch
  go_wp2_with fail
  refine (iArr_any B p d xs _ HP.out hpd hm2 (HR2.out.below hB1)).mono ?_
  rintro en w2 ⟨rfl, mq2, hq⟩
  have hB2 := bseq hB1 (bquiet hq)
  clear hq
  rcases Bool.eq_false_or_eq_true (isArr xs) with g2 | g2
  rotate_left
  · have HV : Hid (bbVal rows xs m f g e r v = 0 ∧ bbCode rows xs m f g e r v = 1) := bb_no (by unfold bbCode; rw [g1, g2]; rfl) (by decide)
    go_wp2
    go_ret2
    exact ⟨by rw [HV.out.1, HV.out.2]; rfl, hB2⟩
  have hxa := isArr_bd g2
  rw [HP.out] at hxa
  have HXB := Lib.hid hxa.2
  have hp12 := hxa.1
  clear hxa
  go_wp2_with fail
  refine (cont_any D m dc f g e _ hm3 (HR3.out.below hB2)).mono ?_
  rintro en w3 ⟨rfl, hb3⟩
  have hB3 := bseq hB2 hb3
  rcases Bool.eq_false_or_eq_true (allDir f g e m) with g3 | g3
  rotate_left
  · have HV : Hid (bbVal rows xs m f g e r v = 0 ∧ bbCode rows xs m f g e r v = 1) := bb_no (by unfold bbCode; rw [g1, g2, g3]; rfl) (by decide)
    rw [g3]
    go_wp2
    go_ret2
    exact ⟨by rw [HV.out.1, HV.out.2]; rfl, hB3⟩
  have HAD := Lib.hid g3
  rw [g3]
  clear g3
  rcases Bool.eq_false_or_eq_true (okWave r v) with g4 | g4
  rotate_left
  · have HV : Hid (bbVal rows xs m f g e r v = 0 ∧ bbCode rows xs m f g e r v = 2) := bb_no (by unfold bbCode; rw [g1, g2, HAD.out, g4]; rfl) (by decide)
    go_wp2_with (first | (go_at_call 75; refine (iWave_any _ _ _).mono ?_; rintro en w1 ⟨rfl, rfl⟩))
    go_ret2
    exact ⟨by rw [HV.out.1, HV.out.2]; rfl, hB3⟩
  by_cases g5 : p = n
  rotate_left
  · have hb5 : ((p : Int) != n) = true := by simp; omega
    have HV : Hid (bbVal rows xs m f g e r v = 0 ∧ bbCode rows xs m f g e r v = 2) := bb_no (by unfold bbCode; rw [g1, g2, HAD.out, g4, HN.out, HP.out, decide_eq_false g5]; rfl) (by decide)
    go_wp2_with (first | (go_at_call 75; refine (iWave_any _ _ _).mono ?_; rintro en w1 ⟨rfl, rfl⟩))
    go_ret2
    exact ⟨by rw [HV.out.1, HV.out.2]; rfl, hB3⟩
  have hb5 : ((p : Int) != n) = false := by simp; omega
  by_cases g6 : m ≤ 40
  rotate_left
  · have hb6 : (40 : Int) < m := by omega
    have HV : Hid (bbVal rows xs m f g e r v = 0 ∧ bbCode rows xs m f g e r v = 2) := bb_no (by unfold bbCode; rw [g1, g2, HAD.out, g4, HN.out, HP.out, decide_eq_true g5, decide_eq_false g6]; rfl) (by decide)
    clear g5
    go_wp2_with (first | (go_at_call 75; refine (iWave_any _ _ _).mono ?_; rintro en w1 ⟨rfl, rfl⟩))
    go_ret2
    exact ⟨by rw [HV.out.1, HV.out.2]; rfl, hB3⟩
  have hb6 : ¬ (40 : Int) < m := by omega
  have HCD : Hid (bbCode rows xs m f g e r v = if m = 0 then 4 else 0) := by show _ = _; unfold bbCode; rw [g1, g2, HAD.out, g4, HN.out, HP.out, decide_eq_true g5, decide_eq_true g6]; rfl
  have HG5 := Lib.hid g5
  clear g5
  have hwv := g4
  simp only [okWave, Bool.and_eq_true] at hwv
  have hrb := inR_iff.1 hwv.1
  have hvb := inR_iff.1 hwv.2
  clear hwv
  by_cases g7 : m = 0
  · have HV : Hid (bbVal rows xs m f g e r v = 0 ∧ bbCode rows xs m f g e r v = 4) := bb_no (by rw [HCD.out, if_pos g7]) (by decide)
    subst g7
    go_wp2_with (first | (go_at_call 75; refine (iWave_any _ _ _).mono ?_; rintro en w1 ⟨rfl, rfl⟩))
    go_ret2
    exact ⟨by rw [HV.out.1, HV.out.2]; rfl, hB3⟩
  have hb7 : ((m : Int) == 0) = false := by simp; omega
  go_wp2_with (first | (go_at_call 75; refine (iWave_any _ _ _).mono ?_; rintro en w1 ⟨rfl, rfl⟩))
  go_loopw [12, 13, 53] (fun b q i wr => ∃ k : Nat, k ≤ m ∧ i = .int .i64 (k : Int) ∧ b = .int .i64 ((bbTo rows xs r v g e k).1 : Nat) ∧ q = .int .i64 (bbTo rows xs r v g e k).2 ∧ Below w.heap.size w wr) (fun _ _ i _ => m - (intOf i).toNat)
  case atStart => exact ⟨0, Nat.zero_le _, rfl, rfl, rfl, hB3⟩
  case round =>
    obtain ⟨k, hk, rfl, rfl, rfl, hbel⟩ := hrel
    have hbb := bbTo_bd rows xs r v g e k
    by_cases hlt : k < m
    · rcases HR3.out with h0 | ⟨b, off, hD, hc⟩
      · exfalso; omega
      subst hD
      obtain ⟨hx0, hy0, hz0⟩ := hc k hlt
      have hx := later hbel hx0
      have hy := later hbel hy0
      have hz := later hbel hz0
      have hdk := allDir_at HAD.out hlt
      have HUP : Hid (bbTo rows xs r v g e (k + 1) = if (bbTo rows xs r v g e k).2 < bbPw rows xs r v g e k then (k, bbPw rows xs r v g e k) else bbTo rows xs r v g e k) := rfl
      have HPW : Hid (bbPw rows xs r v g e k = corr (bVal rows (dlys xs (10 * r * g k) (e k * v))) 0) := rfl
      have hpn := bbPw_nn rows xs r v g e k
      clear hx0 hy0 hz0 hc
      obtain ⟨x, hxx⟩ : ∃ x, x = f k := ⟨_, rfl⟩
      obtain ⟨y, hyy⟩ : ∃ y, y = g k := ⟨_, rfl⟩
      obtain ⟨z, hzz⟩ : ∃ z, z = e k := ⟨_, rfl⟩
      rw [← hxx] at hx hdk; rw [← hyy] at hy hdk HPW; rw [← hzz] at hz hdk HPW
      clear hxx hyy hzz
      obtain ⟨T, hT⟩ : ∃ T, T = bbTo rows xs r v g e k := ⟨_, rfl⟩
      obtain ⟨Q, hQ⟩ : ∃ Q, Q = bbPw rows xs r v g e k := ⟨_, rfl⟩
      rw [← hT] at hbb HUP ⊢
      rw [← hQ] at HUP HPW hpn
      have HTT := Lib.hid hT
      clear hT hQ
      have hdb := isDir_bd hdk
      have HDS : Hid (Bd 1000000 (dlys xs (10 * r * y) (z * v))) := dlys_small hdk hrb hvb HXB.out
      have HDL : Hid ((dlys xs (10 * r * y) (z * v)).length = n) := by show _ = _; rw [dlys_len, HP.out]; exact HG5.out
      have HBL : Hid ((bVal rows (dlys xs (10 * r * y) (z * v))).length = (rows.getD 0 []).length) := bVal_len rfl
      have HBB : Hid (Bd 12000 (bVal rows (dlys xs (10 * r * y) (z * v)))) := bVal_bd HCH.out
      have hi1 : (k : Int) < m := by omega
      have hz9 := hbel.size
      go_wp2_with fail
      have hb0 : Below wr.heap.size wr (wr.alloc (.cells #[.int .i64 x, .int .i64 y, .int .i64 z] 42)) := Below.alloc (Below.refl _ _) (Nat.le_refl _) _
      refine (newW_any x y z r v _ hrb hdb.2.1 hdb.2.2 hvb).mono ?_
      rintro en w4 ⟨rfl, hb4'⟩
      have hb4 := bseq hb0 hb4'
      clear hb0 hb4'
      have hBA := bseq hbel hb4
      have hzA := hBA.size
      go_wp2_with fail
      refine (iDly_any (10 * r * y) (z * v) B p d xs _ HP.out (by omega) HXB (num_bd hrb hdb.2.1) (den_bd hdb.2.2 hvb) (HR2.out.below hBA)).mono ?_
      rintro en w5 ⟨A5, c5, rfl, hR5, hbd5⟩
      have hpn9 : n = p := HG5.out.symm
      subst hpn9
      have hBB := bseq hBA hbd5
      go_wp2_with fail
      refine (iBeam_any A n c rows A5 c5 (dlys xs (10 * r * y) (z * v)) (rows.getD 0 []).length _ HN.out HCH HDL.out HDS (HR.out.below hBB) (by have := hR5.rd; exact this)).mono ?_
      rintro en w6 ⟨A6, c6, rfl, hR6, hb6'⟩
      have hBC := bseq hBB hb6'
      clear hR5
      go_wp2_with fail
      refine (iCorr_any A6 (rows.getD 0 []).length c6 (bVal rows (dlys xs (10 * r * y) (z * v))) _ HBL.out HCH.out.2.2.2.1 HBB hR6.rd).mono ?_
      rintro en w7 ⟨rfl, mq7, hq7⟩
      have hBD : Below w.heap.size w w7 := bseq hBC (bquiet hq7)
      clear hq7 hR6
      rw [← HPW.out]
      rcases Int.lt_or_le T.2 Q with hTQ | hTQ
      · have HU2 : Hid (bbTo rows xs r v g e (k + 1) = (k, Q)) := by show _ = _; rw [HUP.out, if_pos hTQ]
        clear HUP
        go_wp2
        go_roundw
        case rel => exact ⟨k + 1, by omega, by go_num, by rw [HU2.out], by rw [HU2.out], hBD⟩
        case measure => simp [intOf]; omega
      · have HU2 : Hid (bbTo rows xs r v g e (k + 1) = T) := by show _ = _; rw [HUP.out, if_neg (by omega)]
        clear HUP
        go_wp2
        go_roundw
        case rel => exact ⟨k + 1, by omega, by go_num, by rw [HU2.out], by rw [HU2.out], hBD⟩
        case measure => simp [intOf]; omega
    · obtain rfl : k = m := by omega
      have HV : Hid (bbVal rows xs k f g e r v = (bbTo rows xs r v g e k).1 ∧ bbCode rows xs k f g e r v = 0) := by
        have h0 : bbCode rows xs k f g e r v = 0 := by rw [HCD.out, if_neg g7]
        exact ⟨by unfold bbVal; rw [if_pos h0], h0⟩
      go_wp2
      go_ret2
      exact ⟨by rw [HV.out.1, HV.out.2]; rfl, hbel⟩
end Go.Proofs.Ytfmhbphbgdijpaa
