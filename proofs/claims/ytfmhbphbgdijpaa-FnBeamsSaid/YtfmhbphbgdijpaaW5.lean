/- walks: szInt64SS, toInt64SS, eqInt64SS, markInt64SS, heldInt64SS -/
import Derived.Test.YtfmhbphbgdijpaaMat
import Derived.Deep.QuietTactic
import Derived.BigQuiet
set_option linter.unusedVariables false
set_option linter.unusedSimpArgs false
namespace Go.Proofs.Ytfmhbphbgdijpaa
open Go.RowKit

theorem sz_any (A : Option Addr) (n c : Nat) (l : Int) (w : World) (hm : n ≤ 9223372036854775807) (h0 : 0 ≤ l) (h1 : l ≤ 1048576) :
    Calls Try.prog 85 #[.slice A n c, .int .i64 l] w fun en w9 => en = .returned (.int .i64 (if l < n then -1 else l - n)) ∧ w = w9 := by
  by_cases h : l < n
  · rw [if_pos h]
    have h2 : l - (n : Int) < 0 := by omega
    go_enter Try.func85, Try.ntmps85
    go_wp2
    go_ret
    exact ⟨rfl, rfl⟩
  · rw [if_neg h]
    have h2 : ¬ l - (n : Int) < 0 := by omega
    go_enter Try.func85, Try.ntmps85
    go_wp2
    go_ret
    exact ⟨rfl, rfl⟩
set_option maxHeartbeats 1000000 in
theorem szSS_any (A : Option Addr) (n c : Nat) (rows : List (List Int)) (w : World) (hn : rows.length = n) (hm : n ≤ 9223372036854775807) (hr : RdM w A rows) :
    Calls Try.prog 32 #[.slice A n c, .int .i64 1048576] w fun en w9 => ∃ z : Int, en = .returned (.int .i64 z) ∧ w = w9 ∧ (0 ≤ z → z = 1048576 - n - (totTo rows n : Nat)) := by
  by_cases hbig : 1048576 < n
  · have h2 : 1048576 - (n : Int) < 0 := by omega
    go_enter Try.func32, Try.ntmps32
    go_wp2
    go_ret
    exact ⟨-1, rfl, rfl, fun h => absurd h (by decide)⟩
  have hl0 : ¬ 1048576 - (n : Int) < 0 := by omega
  rcases hr with rfl | ⟨b, off, rfl, hc⟩
  · obtain rfl : n = 0 := by simpa using hn.symm
    go_enter Try.func32, Try.ntmps32
    go_wp2
    refine wp_loop_rounds 1 ?_
    rw [rounds_succ]
    go_wp2
    go_ret
    exact ⟨_, rfl, rfl, fun _ => by simp [totTo]⟩
  · have HC := Lib.hid hc; clear hc
    have HN := Lib.hid hn; clear hn
    go_enter Try.func32, Try.ntmps32
    go_wp2
    go_loop [1, 5] (fun l i => ∃ (k : Nat) (z : Int), k ≤ n ∧ i = .int .i64 (k : Int) ∧ l = .int .i64 z ∧ 0 ≤ z ∧ z ≤ 1048576 ∧ Hid (z = 1048576 - n - (totTo rows k : Nat))) (fun _ i => n - (intOf i).toNat)
    case atStart => exact ⟨0, 1048576 - n, Nat.zero_le _, rfl, rfl, by omega, by omega, by show _ = _; simp [totTo]⟩
    case round =>
      obtain ⟨k, z, hk, rfl, rfl, hz0, hz1, HZ⟩ := hrel
      by_cases hlt : k < n
      · obtain ⟨B, m, c2, hck, hml, _, hm9, _⟩ := HC.out k (by rw [HN.out]; exact hlt)
        have HT : Hid (totTo rows (k + 1) = totTo rows k + m) := by show _ = _; rw [← hml]; rfl
        clear hml
        by_cases hzm : z < m
        · have hd1 : (-1 : Int) < 0 := by decide
          go_wp2_with (first | (go_at_call 85; refine (sz_any _ _ _ _ _ hm9 hz0 hz1).mono ?_; rintro en w1 ⟨rfl, rfl⟩; rw [if_pos hzm]))
          go_ret
          exact ⟨-1, rfl, rfl, fun h => absurd h (by decide)⟩
        · have hd1 : ¬ (z - m) < 0 := by omega
          go_wp2_with (first | (go_at_call 85; refine (sz_any _ _ _ _ _ hm9 hz0 hz1).mono ?_; rintro en w1 ⟨rfl, rfl⟩; rw [if_neg hzm]))
          go_round
          case rel => exact ⟨k + 1, z - m, by omega, by go_num, rfl, by omega, by omega, by show _ = _; rw [HT.out, HZ.out]; omega⟩
          case measure => simp [intOf]; omega
      · obtain rfl : k = n := by omega
        go_wp2
        go_ret
        exact ⟨z, rfl, rfl, fun _ => HZ.out⟩
set_option maxHeartbeats 1000000 in
theorem toSS_any (A : Option Addr) (n c : Nat) (rows : List (List Int)) (w : World) (hn : rows.length = n) (hm : n ≤ 1048576) (hrow : ∀ k, k < n → (rows.getD k []).length ≤ 1048576) (hr : RdM w A rows) :
    Calls Try.prog 33 #[.slice A n c] w fun en w9 => en = .returned (.slice (some ⟨w.heap.size, 0, none⟩) n n) ∧ OwnM w9 w.heap.size w9.heap.size (some ⟨w.heap.size, 0, none⟩) n n rows ∧ Below w.heap.size w w9 := by
  rcases hr with rfl | ⟨b, off, rfl, hc⟩
  · obtain rfl : n = 0 := by simpa using hn.symm
    have hmk0 : ∀ w : World, (Instr.makeSlice 28 (.int .i64 0) (.int .i64 0)).run Try.prog w = .ok (.slice (some ⟨w.heap.size, 0, none⟩) 0 0) (w.alloc (.cells (nils 0) 22)) := mk_rows 0 (by omega)
    go_enter Try.func33, Try.ntmps33
    go_wp2
    refine wp_loop_rounds 1 ?_
    rw [rounds_succ]
    go_wp2
    go_ret
    exact ⟨rfl, OwnM.nil, by go_grown⟩
  · have hmk := mk_rows n hm
    have HC := Lib.hid hc; clear hc
    have HN := Lib.hid hn; clear hn
    have HR := Lib.hid hrow; clear hrow
    have HS : Hid (MakM (w.alloc (.cells (nils n) 22)) w.heap.size n 0 rows (fun _ => 0)) := MakM.start
    go_enter Try.func33, Try.ntmps33
    go_wp2
    go_loopw [4] (fun i wr => ∃ (k : Nat) (H : Nat → Nat), k ≤ n ∧ i = .int .i64 (k : Int) ∧ Hid (MakM wr w.heap.size n k rows H) ∧ Below w.heap.size w wr) (fun i _ => n - (intOf i).toNat)
    case atStart => exact ⟨0, _, Nat.zero_le _, rfl, HS, by go_grown⟩
    case round =>
      obtain ⟨k, H, hk, rfl, HK, hbel⟩ := hrel
      by_cases hlt : k < n
      · obtain ⟨B, m, c2, hx0, hml, hmc, hm9, hrd⟩ := HC.out k (by rw [HN.out]; exact hlt)
        have hck := (hbel.cell (World.block_lt_of_cell? w _ hx0)).trans hx0
        have hrw := HR.out k hlt
        rw [hml] at hrw
        have hrd2 := hrd.below hbel
        clear hx0 hrd
        go_wp2_with fail
        refine (toInt64S_any B m c2 (rows.getD k []) _ hml (by omega) hrd2).mono ?_
        rintro en w1 ⟨rfl, hz, hc1, hb1⟩
        have hK2 := HK.out.step hlt hb1 (Nat.lt_of_succ_le hz) hc1
        rw [hml] at hK2
        have HK2 := Lib.hid hK2
        have hbel2 : Below w.heap.size w w1 := hbel.trans (hb1.mono hbel.size)
        obtain ⟨⟨v, hv0⟩, hf0⟩ := HK.out.2.1 k hlt
        have hv := later hb1 hv0
        have hf := laterF hb1 hv0 hf0
        clear hv0 hf0 hK2 hc1 hrd2
        go_wp2
        go_roundw
        case rel => exact ⟨k + 1, _, by omega, by go_num, HK2, hbel2.setCell (Nat.le_refl _) _⟩
        case measure => simp [intOf]; omega
      · obtain rfl : k = n := by omega
        go_wp2
        go_ret
        exact ⟨rfl, HK.out.done HN.out HR.out, hbel⟩
set_option maxHeartbeats 1000000 in
/-- two equal lists -/
theorem eqQ_any (A B : Option Addr) (n c d : Nat) (xs : List Int) (w : World) (hn : xs.length = n) (hm : n ≤ 9223372036854775807) (hr : Rd w A xs) (hr2 : Rd w B xs) :
    Calls Try.prog 17 #[.slice A n c, .slice B n d] w fun en w9 => en = .returned (.bool true) ∧ ∃ m, w9 = w.drewN m := by
  have hne : ((n : Int) != n) = false := by simp
  rcases hr with rfl | ⟨b, off, rfl, hc⟩
  · obtain rfl : n = 0 := by simpa using hn.symm
    go_enter Try.func17, Try.ntmps17
    go_wp2
    refine wp_loop_rounds 1 ?_
    rw [rounds_succ]
    go_wp2
    go_ret
    exact ⟨rfl, 0, rfl⟩
  rcases hr2 with rfl | ⟨b2, off2, rfl, hc2⟩
  · obtain rfl : n = 0 := by simpa using hn.symm
    go_enter Try.func17, Try.ntmps17
    go_wp2
    refine wp_loop_rounds 1 ?_
    rw [rounds_succ]
    go_wp2
    go_ret
    exact ⟨rfl, 0, rfl⟩
  have HC := Lib.hid hc; have HC2 := Lib.hid hc2; have HN := Lib.hid hn
  clear hc hc2 hn
  go_enter Try.func17, Try.ntmps17
  go_wp2
  go_loopw [5] (fun i wr => ∃ k m : Nat, k ≤ n ∧ i = .int .i64 (k : Int) ∧ wr = w.drewN m) (fun i _ => n - (intOf i).toNat)
  case atStart => exact ⟨0, 0, Nat.zero_le _, rfl, rfl⟩
  case round =>
    obtain ⟨k, m, hk, rfl, hwr⟩ := hrel
    have HW := Lib.hid hwr; clear hwr
    by_cases hlt : k < n
    · have hck : wr.cell? ⟨b, off + k, none⟩ = some (.int .i64 (xs.getD k 0)) := by rw [HW.out]; exact HC.out k (by rw [HN.out]; exact hlt)
      have hdk : wr.cell? ⟨b2, off2 + k, none⟩ = some (.int .i64 (xs.getD k 0)) := by rw [HW.out]; exact HC2.out k (by rw [HN.out]; exact hlt)
      obtain ⟨x, hx⟩ : ∃ x, x = xs.getD k 0 := ⟨_, rfl⟩
      rw [← hx] at hck hdk
      clear hx
      have hi0 : (k : Int) < n := by omega
      go_wp2
      go_quiet (fail)
      go_wp2
      go_roundw
      case rel => exact ⟨k + 1, m + nq, by omega, by go_num, by rw [HW.out]; exact World.drewN_drewN _ _ _⟩
      case measure => simp [intOf]; omega
    · obtain rfl : k = n := by omega
      go_wp2
      go_ret
      exact ⟨rfl, m, HW.out⟩
set_option maxHeartbeats 1000000 in
theorem eqSS_any (A B : Option Addr) (n c d : Nat) (rows : List (List Int)) (w : World) (hn : rows.length = n) (hm : n ≤ 1048576) (hr : RdM w A rows) (hr2 : RdM w B rows) :
    Calls Try.prog 34 #[.slice A n c, .slice B n d] w fun en w9 => en = .returned (.bool true) ∧ ∃ m, w9 = w.drewN m := by
  have hne : ((n : Int) != n) = false := by simp
  rcases hr with rfl | ⟨b, off, rfl, hc⟩
  · obtain rfl : n = 0 := by simpa using hn.symm
    go_enter Try.func34, Try.ntmps34
    go_wp2
    refine wp_loop_rounds 1 ?_
    rw [rounds_succ]
    go_wp2
    go_ret
    exact ⟨rfl, 0, rfl⟩
  rcases hr2 with rfl | ⟨b2, off2, rfl, hc2⟩
  · obtain rfl : n = 0 := by simpa using hn.symm
    go_enter Try.func34, Try.ntmps34
    go_wp2
    refine wp_loop_rounds 1 ?_
    rw [rounds_succ]
    go_wp2
    go_ret
    exact ⟨rfl, 0, rfl⟩
  have HC := Lib.hid hc; have HC2 := Lib.hid hc2; have HN := Lib.hid hn
  clear hc hc2 hn
  go_enter Try.func34, Try.ntmps34
  go_wp2
  go_loopw [5] (fun i wr => ∃ k m : Nat, k ≤ n ∧ i = .int .i64 (k : Int) ∧ wr = w.drewN m) (fun i _ => n - (intOf i).toNat)
  case atStart => exact ⟨0, 0, Nat.zero_le _, rfl, rfl⟩
  case round =>
    obtain ⟨k, m, hk, rfl, hwr⟩ := hrel
    have HW := Lib.hid hwr; clear hwr
    by_cases hlt : k < n
    · obtain ⟨B1, m1, c1, q1, q2, q3, q4, q5⟩ := HC.out k (by rw [HN.out]; exact hlt)
      obtain ⟨B2, m2, c2, p1, p2, p3, p4, p5⟩ := HC2.out k (by rw [HN.out]; exact hlt)
      obtain rfl : m1 = m2 := by omega
      have hck : wr.cell? ⟨b, off + k, none⟩ = some (.slice B1 m1 c1) := by rw [HW.out]; exact q1
      have hdk : wr.cell? ⟨b2, off2 + k, none⟩ = some (.slice B2 m1 c2) := by rw [HW.out]; exact p1
      have R1 : Rd wr B1 (rows.getD k []) := by rw [HW.out]; exact q5.drewN _
      have R2 : Rd wr B2 (rows.getD k []) := by rw [HW.out]; exact p5.drewN _
      clear q1 p1 q5 p5 p2
      have hi0 : (k : Int) < n := by omega
      have HX : Hid (∀ q, Calls Try.prog 17 #[.slice B1 m1 c1, .slice B2 m1 c2] (wr.drewN q) fun en w9 => en = .returned (.bool true) ∧ ∃ m, w9 = (wr.drewN q).drewN m) := fun q => eqQ_any B1 B2 m1 c1 c2 (rows.getD k []) _ q2 q4 (R1.drewN _) (R2.drewN _)
      clear q2 R1 R2
      go_wp2
      go_quiet (first | (go_at_call 17; exact Calls.quiet_of (HX.out _)))
      go_wp2
      go_roundw
      case rel => exact ⟨k + 1, m + nq, by omega, by go_num, by rw [HW.out]; exact World.drewN_drewN _ _ _⟩
      case measure => simp [intOf]; omega
    · obtain rfl : k = n := by omega
      go_wp2
      go_ret
      exact ⟨rfl, m, HW.out⟩
theorem markI_any (A : Option Addr) (n c B U : Nat) (ys : List Int) (k : Int) (w : World) (h : OwnI w B U A n c ys) (hm : n ≤ 1099511627776) (k0 : 0 ≤ k) (k1 : k ≤ 1099511627776) :
    Calls Try.prog 36 #[.slice A n c, .int .i64 k] w fun en w9 => en = .returned (.int .i64 (k + n)) ∧ OwnI w9 B U A n c (iota k n) ∧ Kept B U w w9 := by
  refine (mark_any A n c B ys k w h.1 hm k0 k1).mono ?_
  rintro en w9 ⟨rfl, hR, hg⟩
  refine ⟨rfl, ⟨hR, Nat.le_trans h.2.1 hg.size, h.2.2⟩, ?_⟩
  cases e : blk A with
  | none => rw [e] at hg; exact ⟨hg.os, hg.tape, hg.output, hg.size, fun k hk _ => hg.block k hk (by intro h; cases h)⟩
  | some g => rw [e] at hg; exact Kept.of_grown hg (h.1.ge g e) (h.2.2 g e)
theorem heldI_any (A : Option Addr) (n c B U : Nat) (k : Int) (w : World) (h : OwnI w B U A n c (iota k n)) (hm : n ≤ 1099511627776) (k0 : 0 ≤ k) (k1 : k ≤ 1099511627776) :
    Calls Try.prog 37 #[.slice A n c, .int .i64 k] w fun en w9 => en = .returned (.int .i64 (k + n)) ∧ w = w9 := held_any A n c B k w h.1 hm k0 k1
set_option maxHeartbeats 1000000 in
theorem markSS_any (A : Option Addr) (n c B U : Nat) (rows : List (List Int)) (k : Int) (w : World) (h : OwnM w B U A n c rows) (hm : n ≤ 1048576) (k0 : 0 ≤ k) (k1 : k + (totTo rows n : Nat) ≤ 1099511627776) :
    Calls Try.prog 35 #[.slice A n c, .int .i64 k] w fun en w9 => en = .returned (.int .i64 (k + (totTo rows n : Nat))) ∧ OwnM w9 B U A n c (iotaM k rows) ∧ Kept B U w w9 := by
  obtain ⟨hn, hnc, hU, h4⟩ := h
  rcases Nat.eq_zero_or_pos n with h0 | h0
  · subst h0
    obtain rfl : rows = [] := List.eq_nil_of_length_eq_zero hn
    go_enter Try.func35, Try.ntmps35
    go_wp2
    refine wp_loop_rounds 1 ?_
    rw [rounds_succ]
    go_wp2
    go_ret
    exact ⟨by simp [totTo], ⟨rfl, hnc, hU, .inl rfl⟩, Kept.refl _ _ _⟩
  rcases h4 with h4 | ⟨g, H, C, rfl, r2, r3, r4, r5, r6⟩
  · exfalso; omega
  have HN := Lib.hid hn
  have HR4 := Lib.hid r4
  have HR5 := Lib.hid r5
  have HS : Hid (MatV w g H C n (fun i => (mixM k rows 0).getD i [])) := by rw [mixM_zero]; exact r6
  clear hn r4 r5 r6
  go_enter Try.func35, Try.ntmps35
  go_wp2
  go_loopw [1, 5] (fun q i wr => ∃ j : Nat, j ≤ n ∧ i = .int .i64 (j : Int) ∧ q = .int .i64 (k + (totTo rows j : Nat)) ∧ Hid (MatV wr g H C n (fun i => (mixM k rows j).getD i [])) ∧ Hid (Kept B U w wr)) (fun _ i _ => n - (intOf i).toNat)
  case atStart => exact ⟨0, Nat.zero_le _, rfl, by simp [totTo], HS, Kept.refl _ _ _⟩
  case round =>
    obtain ⟨j, hj, rfl, rfl, HK, HG⟩ := hrel
    by_cases hlt : j < n
    · obtain ⟨q1, q2, q3, q4, q5⟩ := HK.out j hlt
      simp only [mixM_at (show j < rows.length by rw [HN.out]; exact hlt), if_neg (Nat.lt_irrefl j)] at q1 q2 q3 q5
      have hj4 := HR4.out j hlt
      have hO : OwnR wr (H j) (some ⟨H j, 0, none⟩) (rows.getD j []).length (C j) (rows.getD j []) := ⟨rfl, q2, .inr ⟨H j, rfl, Nat.le_refl _, q4, q5⟩⟩
      have ht := totTo_mono (rows := rows) (j + 1) n hlt
      have HT : Hid (totTo rows (j + 1) = totTo rows j + (rows.getD j []).length) := rfl
      rw [HT.out] at ht
      have HO := Lib.hid hO
      clear q5 hO
      obtain ⟨m, hmm⟩ : ∃ m, m = (rows.getD j []).length := ⟨_, rfl⟩
      rw [← hmm] at q1 q2 q3 ht
      have HM := Lib.hid hmm
      have HO2 : Hid (OwnR wr (H j) (some ⟨H j, 0, none⟩) m (C j) (rows.getD j [])) := by show OwnR _ _ _ _ _ _; rw [hmm]; exact HO.out
      clear hmm HO
      have hi0 : (j : Int) < n := by omega
      go_wp2_with fail
      refine (mark_any _ m (C j) (H j) (rows.getD j []) (k + (totTo rows j : Nat)) _ HO2.out (by omega) (by omega) (by omega)).mono ?_
      rintro en w2 ⟨rfl, hR2, hg2⟩
      have hc2 : Cells w2 (H j) 0 (iota (k + (totTo rows j : Nat)) (rows.getD j []).length) := by
        rw [← HM.out]
        rcases hR2.2.2 with ⟨h, _⟩ | ⟨g2, h, _, _, hc⟩
        · cases h
        · cases h; exact hc
      have HK2 := Lib.hid (MatV.put (B := B) (U := U) HN.out hlt HK.out (fun i hi => (HR4.out i hi).2.2) HR5.out hg2 hc2)
      have HG2 : Hid (Kept B U w w2) := HG.out.trans (Kept.of_grown hg2 hj4.1 hj4.2.1)
      clear hR2 hg2 hc2 HO2
      go_wp2
      go_roundw
      case rel => exact ⟨j + 1, by omega, by go_num, by rw [HT.out, ← HM.out]; congr 1; omega, HK2, HG2⟩
      case measure => simp [intOf]; omega
    · obtain rfl : j = n := by omega
      have hfin := HK.out
      rw [mixM_all HN.out] at hfin
      have HF := Lib.hid hfin
      clear hfin
      go_wp2
      go_ret
      exact ⟨rfl, ⟨by rw [iotaM_len, HN.out], hnc, Nat.le_trans hU HG.out.size, .inr ⟨g, H, C, rfl, r2, r3, HR4.out, HR5.out, HF.out⟩⟩, HG.out⟩
set_option maxHeartbeats 1000000 in
theorem heldSS_any (A : Option Addr) (n c B U : Nat) (rows : List (List Int)) (k : Int) (w : World) (hn : rows.length = n) (h : OwnM w B U A n c (iotaM k rows)) (hm : n ≤ 1048576) (k0 : 0 ≤ k) (k1 : k + (totTo rows n : Nat) ≤ 1099511627776) :
    Calls Try.prog 44 #[.slice A n c, .int .i64 k] w fun en w9 => en = .returned (.int .i64 (k + (totTo rows n : Nat))) ∧ w = w9 := by
  obtain ⟨_, hnc, hU, h4⟩ := h
  rcases Nat.eq_zero_or_pos n with h0 | h0
  · subst h0
    go_enter Try.func44, Try.ntmps44
    go_wp2
    refine wp_loop_rounds 1 ?_
    rw [rounds_succ]
    go_wp2
    go_ret
    exact ⟨by simp [totTo], rfl⟩
  rcases h4 with h4 | ⟨g, H, C, rfl, r2, r3, r4, r5, r6⟩
  · exfalso; omega
  have HN := Lib.hid hn
  have HS := Lib.hid r6
  clear hn r4 r5 r6
  go_enter Try.func44, Try.ntmps44
  go_wp2
  go_loop [1, 5] (fun q i => ∃ j : Nat, j ≤ n ∧ i = .int .i64 (j : Int) ∧ q = .int .i64 (k + (totTo rows j : Nat))) (fun _ i => n - (intOf i).toNat)
  case atStart => exact ⟨0, Nat.zero_le _, rfl, by simp [totTo]⟩
  case round =>
    obtain ⟨j, hj, rfl, rfl⟩ := hrel
    by_cases hlt : j < n
    · obtain ⟨q1, q2, q3, q4, q5⟩ := HS.out j hlt
      simp only [iotaM_at (show j < rows.length by rw [HN.out]; exact hlt), iota_len] at q1 q2 q3 q5
      have ht := totTo_mono (rows := rows) (j + 1) n hlt
      have HT : Hid (totTo rows (j + 1) = totTo rows j + (rows.getD j []).length) := rfl
      rw [HT.out] at ht
      obtain ⟨m, hmm⟩ : ∃ m, m = (rows.getD j []).length := ⟨_, rfl⟩
      rw [← hmm] at q1 q2 q3 q5 ht
      have HM := Lib.hid hmm
      have HO : Hid (OwnR w (H j) (some ⟨H j, 0, none⟩) m (C j) (iota (k + (totTo rows j : Nat)) m)) := ⟨iota_len _ _, q2, .inr ⟨H j, rfl, Nat.le_refl _, q4, q5⟩⟩
      clear q5 hmm
      have hi0 : (j : Int) < n := by omega
      have hd1 : ¬ (k + (totTo rows j : Nat) + (m : Int)) < 0 := by omega
      go_wp2_with fail
      refine (held_any _ m (C j) (H j) (k + (totTo rows j : Nat)) _ HO.out (by omega) (by omega) (by omega)).mono ?_
      rintro en w2 ⟨rfl, rfl⟩
      go_wp2
      go_round
      case rel => exact ⟨j + 1, by omega, by go_num, by rw [HT.out, ← HM.out]; congr 1; omega⟩
      case measure => simp [intOf]; omega
    · obtain rfl : j = n := by omega
      go_wp2
      go_ret
      exact ⟨rfl, rfl⟩
end Go.Proofs.Ytfmhbphbgdijpaa
