/- walks: slices of contacts -/
import Derived.Test.YtoccglmlpobeeaaProg
import Derived.Test.YtoccglmlpobeeaaPairs
import Derived.Test.YtoccglmlpobeeaaW3
import Derived.Test.YtoccglmlpobeeaaL2
import Derived.Deep.QuietTactic
import Derived.BigQuiet
import Derived.Lib.Hide
set_option linter.unusedVariables false
set_option linter.unusedSimpArgs false
namespace Go.Proofs.Ytoccglmlpobeeaa
open Go.RowKit

theorem info_ct : (Try.prog.info? 40).map (fun i => (i.zero, i.size, i.bytes)) = some (some (.agg #[.int .i64 0, .int .i64 0]), 2, 16) := by kernel_rfl
theorem mk_pairs (n : Nat) (hn : n ≤ 1099511627776) (w : World) :
    (Instr.makeSlice 68 (.int .i64 (n : Int)) (.int .i64 (n : Int))).run Try.prog w = .ok (.slice (some ⟨w.heap.size, 0, none⟩) n n) (w.alloc (.cells (madeCells #[.int .i64 0, .int .i64 0] (n * 2)) 40)) := by
  obtain ⟨i0, hi, hz0, hz1, hz2⟩ := info_parts info_ct
  exact make_pairs 68 40 i0 Try.underlying68 hi hz0 hz1 hz2 n hn w
set_option maxHeartbeats 2000000 in
theorem toContactS_any (A : Option Addr) (n c : Nat) (f g : Nat → Int) (w : World) (hm : n ≤ 1099511627776) (hr : RdP w A n f g) :
    Calls Try.prog 52 #[.slice A n c] w fun en w9 => en = .returned (.slice (some ⟨w.heap.size, 0, none⟩) n n) ∧ PC w9 w.heap.size n f g ∧ Below w.heap.size w w9 := by
  have hmk := mk_pairs n hm
  rcases hr with rfl | ⟨b, off, rfl, hc⟩
  · have hmk0 : ∀ w : World, (Instr.makeSlice 68 (.int .i64 0) (.int .i64 0)).run Try.prog w = .ok (.slice (some ⟨w.heap.size, 0, none⟩) 0 0) (w.alloc (.cells (madeCells #[.int .i64 0, .int .i64 0] (0 * 2)) 40)) := mk_pairs 0 (by omega)
    clear hmk
    go_enter Try.func52, Try.ntmps52
    go_wp2
    refine wp_loop_rounds 1 ?_
    rw [rounds_succ]
    go_wp2
    go_ret
    exact ⟨rfl, fun j hj => absurd hj (Nat.not_lt_zero _), by go_grown⟩
  · have HC := Lib.hid hc; clear hc
    have HS : Hid (PC (w.alloc (.cells (madeCells #[.int .i64 0, .int .i64 0] (n * 2)) 40)) w.heap.size n (upto 0 f) (upto 0 g)) := pairs_zero w 40 n f g
    go_enter Try.func52, Try.ntmps52
    go_wp2
    go_loopw [4] (fun i wr => ∃ k : Nat, k ≤ n ∧ i = .int .i64 (k : Int) ∧ Hid (PC wr w.heap.size n (upto k f) (upto k g)) ∧ w.heap.size + 1 ≤ wr.heap.size ∧ Below w.heap.size w wr) (fun i _ => n - (intOf i).toNat)
    case atStart => exact ⟨0, Nat.zero_le _, rfl, HS, by simp, by go_grown⟩
    case round =>
      obtain ⟨k, hk, rfl, HK, hsz, hbel⟩ := hrel
      by_cases hlt : k < n
      · obtain ⟨hx0, hy0⟩ := HC.out k hlt
        have hx := (hbel.cell (World.block_lt_of_cell? w _ hx0)).trans hx0
        have hy := (hbel.cell (World.block_lt_of_cell? w _ hy0)).trans hy0
        clear hx0 hy0
        obtain ⟨x, ex⟩ : ∃ x, x = f k := ⟨_, rfl⟩
        obtain ⟨y, ey⟩ : ∃ y, y = g k := ⟨_, rfl⟩
        rw [← ex] at hx; rw [← ey] at hy
        have EX := Lib.hid ex; have EY := Lib.hid ey; clear ex ey
        have hi0 : (0 : Int) ≤ k := by omega
        have hi1 : (k : Int) < n := by omega
        go_wp2_with fail
        refine (toContact_any _ _ _).mono ?_
        rintro en wx ⟨rfl, hbx⟩
        have hp := HK.out.below hbx
        obtain ⟨c1, c2, c3, c4⟩ := hp k hlt
        obtain ⟨x2, ex2⟩ : ∃ x, x = upto k f k := ⟨_, rfl⟩
        obtain ⟨y2, ey2⟩ : ∃ y, y = upto k g k := ⟨_, rfl⟩
        rw [← ex2] at c1; rw [← ey2] at c2
        clear ex2 ey2
        have HP : Hid (PC ((wx.setCell ⟨w.heap.size, k * 2, none⟩ (.int .i64 x)).setCell ⟨w.heap.size, k * 2 + 1, none⟩ (.int .i64 y)) w.heap.size n (upto (k + 1) f) (upto (k + 1) g)) := by
          show PC _ _ _ _ _
          rw [EX.out, EY.out]; exact hp.put hlt
        clear hp
        have hwx : Below w.heap.size w wx := hbel.trans (hbx.mono hbel.size)
        go_wp2
        go_roundw
        case rel => exact ⟨k + 1, by omega, by go_num, HP, by have := hwx.size; have := hbx.size; simp [World.setCell]; omega, (hwx.setCell (Nat.le_refl _) _).setCell (Nat.le_refl _) _⟩
        case measure => simp [intOf]; omega
      · obtain rfl : k = n := by omega
        go_wp2
        go_ret
        exact ⟨rfl, HK.out.all, hbel⟩
theorem eqContact_any (x y : Int) (w : World) : Calls Try.prog 101 #[.agg #[.int .i64 x, .int .i64 y], .agg #[.int .i64 x, .int .i64 y]] w fun en w9 => en = .returned (.bool true) ∧ Below w.heap.size w w9 := by
  go_enter Try.func101, Try.ntmps101
  go_wp2
  go_ret
  exact ⟨rfl, by go_grown⟩
theorem szBig_any (A : Option Addr) (n c : Nat) (w : World) (h : 1048576 < n) (hm : n ≤ 9223372036854775807) : Calls Try.prog 50 #[.slice A n c, .int .i64 1048576] w fun en w9 => en = .returned (.int .i64 (-1)) ∧ w = w9 := by
  have h2 : ((1048576 : Int) - n) < 0 := by omega
  go_enter Try.func50, Try.ntmps50
  go_wp2
  go_ret
  exact ⟨rfl, rfl⟩
theorem szSmall_any (A : Option Addr) (n c : Nat) (w : World) (h : n ≤ 1048576) : Calls Try.prog 50 #[.slice A n c, .int .i64 1048576] w fun en w9 => en = .returned (.int .i64 (1048576 - (n : Int))) ∧ w = w9 := by
  have h2 : ¬ ((1048576 : Int) - n) < 0 := by omega
  go_enter Try.func50, Try.ntmps50
  go_wp2
  go_ret
  exact ⟨rfl, rfl⟩
/-- the contacts of two lists are compared -/
theorem eqContactS_any (A B : Option Addr) (n c d : Nat) (f g : Nat → Int) (w : World) (hm : n ≤ 1099511627776) (hr : RdP w A n f g) (hr2 : RdP w B n f g) :
    Calls Try.prog 54 #[.slice A n c, .slice B n d] w fun en w9 => en = .returned (.bool true) ∧ Below w.heap.size w w9 := by
  rcases hr with rfl | ⟨b, off, rfl, hc⟩
  · go_enter Try.func54, Try.ntmps54
    go_wp2
    refine wp_loop_rounds 1 ?_
    rw [rounds_succ]
    go_wp2
    go_ret
    exact ⟨rfl, by go_grown⟩
  · rcases hr2 with rfl | ⟨b2, off2, rfl, hc2⟩
    · go_enter Try.func54, Try.ntmps54
      go_wp2
      refine wp_loop_rounds 1 ?_
      rw [rounds_succ]
      go_wp2
      go_ret
      exact ⟨rfl, by go_grown⟩
    · have HC := Lib.hid hc; have HC2 := Lib.hid hc2; clear hc hc2
      have hne : ((n : Int) != n) = false := by simp
      go_enter Try.func54, Try.ntmps54
      go_wp2
      go_loopw [5] (fun i wr => ∃ k : Nat, k ≤ n ∧ i = .int .i64 (k : Int) ∧ Below w.heap.size w wr) (fun i _ => n - (intOf i).toNat)
      case atStart => exact ⟨0, Nat.zero_le _, rfl, by go_grown⟩
      case round =>
        obtain ⟨k, hk, rfl, hbel⟩ := hrel
        by_cases hlt : k < n
        · obtain ⟨hx0, hy0⟩ := HC.out k hlt
          obtain ⟨hu0, hv0⟩ := HC2.out k hlt
          have HT : Hid (∀ X : World, Below w.heap.size w X → X.cell? ⟨b, off + k * 2, none⟩ = some (.int .i64 (f k)) ∧ X.cell? ⟨b, off + k * 2 + 1, none⟩ = some (.int .i64 (g k)) ∧ X.cell? ⟨b2, off2 + k * 2, none⟩ = some (.int .i64 (f k)) ∧ X.cell? ⟨b2, off2 + k * 2 + 1, none⟩ = some (.int .i64 (g k))) := fun X hB => ⟨later hB hx0, later hB hy0, later hB hu0, later hB hv0⟩
          clear hx0 hy0 hu0 hv0
          have HT0 := HT.out wr hbel
          obtain ⟨q1, q2, q3, q4⟩ := HT0
          generalize f k = x at *
          generalize g k = y at *
          have hi0 : (0 : Int) ≤ k := by omega
          have hi1 : (k : Int) < n := by omega
          go_wp2
          go_region_held3 (fun w9 => w9.cell? ⟨b, off + k * 2, none⟩ = some (.int .i64 x) ∧ w9.cell? ⟨b, off + k * 2 + 1, none⟩ = some (.int .i64 y) ∧ w9.cell? ⟨b2, off2 + k * 2, none⟩ = some (.int .i64 x) ∧ w9.cell? ⟨b2, off2 + k * 2 + 1, none⟩ = some (.int .i64 y)) (first | with_reducible assumption | go_keep) (first | (go_at_call 101; refine (eqContact_any _ _ _).mono ?_; rintro en wx ⟨rfl, hbx⟩; have hwx : Below w.heap.size w wx := Below.trans (b := _) (Below.drew hbel) (hbx.mono hbel.size); have hp1 := later hbx q1; have hp2 := later hbx q2; have hp3 := later hbx q3; have hp4 := later hbx q4))
          go_wp2
          go_roundw
          case rel => exact ⟨k + 1, by omega, by go_num, hwx⟩
          case measure => simp [intOf]; omega
        · obtain rfl : k = n := by omega
          go_wp2
          go_ret
          exact ⟨rfl, hbel⟩
/-- the reference's code of a list -/
def ctCode (n : Nat) (f g : Nat → Int) : Int := if allP n f g then (if 6 < n then 3 else 0) else 1
set_option maxHeartbeats 1000000 in
theorem sContacts_any (A : Option Addr) (n c : Nat) (f g : Nat → Int) (w : World) (hm : n ≤ 1099511627776) (hr : RdP w A n f g) :
    Calls Try.prog 99 #[.slice A n c] w fun en w9 => en = .returned (.int .i64 (ctCode n f g)) ∧ Below w.heap.size w w9 := by
  rcases hr with rfl | ⟨b, off, rfl, hc⟩
  · go_enter Try.func99, Try.ntmps99
    go_wp2
    refine wp_loop_rounds 1 ?_
    rw [rounds_succ]
    go_wp2
    go_ret
    exact ⟨rfl, by go_grown⟩
  · have HC := Lib.hid hc; clear hc
    go_enter Try.func99, Try.ntmps99
    go_wp2
    go_loopw [3] (fun i wr => ∃ k : Nat, k ≤ n ∧ i = .int .i64 (k : Int) ∧ Hid (allP k f g = true) ∧ Below w.heap.size w wr) (fun i _ => n - (intOf i).toNat)
    case atStart => exact ⟨0, Nat.zero_le _, rfl, rfl, by go_grown⟩
    case round =>
      obtain ⟨k, hk, rfl, HA, hbel⟩ := hrel
      by_cases hlt : k < n
      · obtain ⟨hx0, hy0⟩ := HC.out k hlt
        have hx := later hbel hx0
        have hy := later hbel hy0
        clear hx0 hy0
        have HT : Hid (isPt 100000 (f k) (g k) = true → allP (k + 1) f g = true) := fun h => allP_snoc HA.out h
        have HF : Hid (isPt 100000 (f k) (g k) = false → ctCode n f g = 1) := fun h => by unfold ctCode; rw [if_neg (by rw [allP_out hlt h]; decide)]
        generalize f k = x at *
        generalize g k = y at *
        have hi0 : (0 : Int) ≤ k := by omega
        have hi1 : (k : Int) < n := by omega
        rcases Bool.eq_false_or_eq_true (isPt 100000 x y) with h1 | h1
        · have HA2 := Lib.hid (HT.out h1)
          go_wp2_with fail
          refine (sContact_any _ _ _).mono ?_
          rintro en wx ⟨rfl, hbx⟩
          go_wp2
          go_roundw
          case rel => exact ⟨k + 1, by omega, by go_num, HA2, hbel.trans (hbx.mono hbel.size)⟩
          case measure => simp [intOf]; omega
        · have HA2 := Lib.hid (HF.out h1)
          go_wp2_with fail
          refine (sContact_any _ _ _).mono ?_
          rintro en wx ⟨rfl, hbx⟩
          go_wp2
          go_ret
          exact ⟨by rw [HA2.out]; rfl, hbel.trans (hbx.mono hbel.size)⟩
      · obtain rfl : k = n := by omega
        by_cases h6 : 6 < k
        · have HA2 : Hid (ctCode k f g = 3) := by show _ = _; unfold ctCode; rw [if_pos HA.out, if_pos h6]
          have h60 : (6 : Int) < k := by omega
          go_wp2
          go_ret
          exact ⟨by rw [HA2.out]; rfl, hbel⟩
        · have HA2 : Hid (ctCode k f g = 0) := by show _ = _; unfold ctCode; rw [if_pos HA.out, if_neg h6]
          have h60 : ¬ (6 : Int) < k := by omega
          go_wp2
          go_ret
          exact ⟨by rw [HA2.out]; rfl, hbel⟩
theorem sAreContacts_any (A : Option Addr) (n c : Nat) (f g : Nat → Int) (w : World) (hm : n ≤ 1099511627776) (hr : RdP w A n f g) :
    Calls Try.prog 51 #[.slice A n c] w fun en w9 => en = .returned (.bool (allP n f g && decide (n ≤ 6))) ∧ Below w.heap.size w w9 := by
  have HV : Hid ((ctCode n f g == 0) = (allP n f g && decide (n ≤ 6))) := by
    show _ = _; unfold ctCode
    by_cases h : 6 < n
    · rw [decide_eq_false (show ¬ n ≤ 6 by omega), Bool.and_false]; split <;> simp [h]
    · rw [decide_eq_true (show n ≤ 6 by omega), Bool.and_true]; cases allP n f g <;> simp [h]
  go_enter Try.func51, Try.ntmps51
  go_wp2_with fail
  refine (sContacts_any A n c f g _ hm hr).mono ?_
  rintro en w1 ⟨rfl, hb1⟩
  go_wp2
  go_ret
  exact ⟨by rw [HV.out]; rfl, hb1⟩
/-- the closure: no contact -/
theorem clos_any (x y : Int) (w : World) : Calls Try.prog 113 #[.agg #[.int .i64 x, .int .i64 y]] w fun en w9 => en = .returned (.bool (!isPt 100000 x y)) ∧ Below w.heap.size w w9 := by
  go_enter Try.func113, Try.ntmps113
  go_wp2_with fail
  refine (iContact_any _ _ _).mono ?_
  rintro en w1 ⟨rfl, hb1⟩
  go_wp2
  go_ret
  exact ⟨rfl, Below.trans (by go_grown) (hb1.mono (by simp))⟩
def IdxPost (n : Nat) (f g : Nat → Int) (w : World) (en : Ending) (w9 : World) : Prop := ∃ r : Int, en = .returned (.int .i64 r) ∧ Hid ((decide (0 ≤ r)) = !allP n f g) ∧ Below w.heap.size w w9
set_option maxHeartbeats 1000000 in
theorem idx_any (A : Option Addr) (n c : Nat) (f g : Nat → Int) (w : World) (hm : n ≤ 1099511627776) (hr : RdP w A n f g) :
    Calls Try.prog 117 #[.slice A n c, .func (.func 113) #[] #[]] w (IdxPost n f g w) := by
  rcases hr with rfl | ⟨b, off, rfl, hc⟩
  · go_enter Try.func117, Try.ntmps117
    go_wp2
    refine wp_loop_rounds 1 ?_
    rw [rounds_succ]
    go_wp2
    go_ret
    exact ⟨_, rfl, rfl, by go_grown⟩
  · have HC := Lib.hid hc; clear hc
    go_enter Try.func117, Try.ntmps117
    go_wp2
    go_loopw [8] (fun i wr => ∃ k : Nat, k ≤ n ∧ i = .int .i64 (k : Int) ∧ Hid (allP k f g = true) ∧ Below w.heap.size w wr) (fun i _ => n - (intOf i).toNat)
    case atStart => exact ⟨0, Nat.zero_le _, rfl, rfl, by go_grown⟩
    case round =>
      obtain ⟨k, hk, rfl, HA, hbel⟩ := hrel
      by_cases hlt : k < n
      · obtain ⟨hx0, hy0⟩ := HC.out k hlt
        have hx := later hbel hx0
        have hy := later hbel hy0
        clear hx0 hy0
        have HT : Hid (isPt 100000 (f k) (g k) = true → allP (k + 1) f g = true) := fun h => allP_snoc HA.out h
        have HF : Hid (isPt 100000 (f k) (g k) = false → (decide (0 ≤ (k : Int))) = !allP n f g) := fun h => by rw [allP_out hlt h]; simp
        generalize f k = x at *
        generalize g k = y at *
        have hi0 : (0 : Int) ≤ k := by omega
        have hi1 : (k : Int) < n := by omega
        rcases Bool.eq_false_or_eq_true (isPt 100000 x y) with h1 | h1
        · have HA2 := Lib.hid (HT.out h1)
          go_wp2_with fail
          refine (clos_any _ _ _).mono ?_
          rintro en wx ⟨rfl, hbx⟩
          go_wp2
          go_roundw
          case rel => exact ⟨k + 1, by omega, by go_num, HA2, hbel.trans (hbx.mono hbel.size)⟩
          case measure => simp [intOf]; omega
        · have HA2 := Lib.hid (HF.out h1)
          go_wp2_with fail
          refine (clos_any _ _ _).mono ?_
          rintro en wx ⟨rfl, hbx⟩
          go_wp2
          go_ret
          exact ⟨_, rfl, HA2, hbel.trans (hbx.mono hbel.size)⟩
      · obtain rfl : k = n := by omega
        have HA2 : Hid ((decide (0 ≤ (-1 : Int))) = !allP k f g) := by show _ = _; rw [HA.out]; rfl
        go_wp2
        go_ret
        exact ⟨_, rfl, HA2, hbel⟩
theorem has_any (A : Option Addr) (n c : Nat) (f g : Nat → Int) (w : World) (hm : n ≤ 1099511627776) (hr : RdP w A n f g) :
    Calls Try.prog 112 #[.slice A n c, .func (.func 113) #[] #[]] w fun en w9 => en = .returned (.bool (!allP n f g)) ∧ Below w.heap.size w w9 := by
  go_enter Try.func112, Try.ntmps112
  go_wp2_with fail
  refine (idx_any A n c f g _ hm hr).mono ?_
  rintro en w1 ⟨r, rfl, HR, hb1⟩
  go_wp2
  go_ret
  exact ⟨by rw [← HR.out]; rfl, hb1⟩
theorem valid_any (A : Option Addr) (n c : Nat) (f g : Nat → Int) (w : World) (hm : n ≤ 1099511627776) (hr : RdP w A n f g) :
    Calls Try.prog 100 #[.slice A n c] w fun en w9 => en = .returned (.bool (allP n f g)) ∧ Below w.heap.size w w9 := by
  go_enter Try.func100, Try.ntmps100
  go_wp2_with fail
  refine (has_any A n c f g _ hm hr).mono ?_
  rintro en w1 ⟨rfl, hb1⟩
  go_wp2
  go_ret
  exact ⟨by simp, hb1⟩
theorem iAreContacts_any (A : Option Addr) (n c : Nat) (f g : Nat → Int) (w : World) (hm : n ≤ 1099511627776) (hr : RdP w A n f g) :
    Calls Try.prog 53 #[.slice A n c] w fun en w9 => en = .returned (.bool (allP n f g && decide (n ≤ 6))) ∧ Below w.heap.size w w9 := by
  by_cases h6 : n ≤ 6
  · have h60 : (n : Int) ≤ 6 := by omega
    go_enter Try.func53, Try.ntmps53
    go_wp2_with fail
    refine (valid_any A n c f g _ hm hr).mono ?_
    rintro en w1 ⟨rfl, hb1⟩
    go_wp2
    go_ret
    exact ⟨by first | rfl | (rw [show (allP n f g && decide (n ≤ 6)) = allP n f g by rw [decide_eq_true h6, Bool.and_true]]; rfl), hb1⟩
  · have h60 : ¬ (n : Int) ≤ 6 := by omega
    have h61 : decide ((n : Int) ≤ 6) = false := decide_eq_false h60
    go_enter Try.func53, Try.ntmps53
    go_wp2
    go_ret
    exact ⟨by first | rfl | (rw [show (allP n f g && decide (n ≤ 6)) = false by rw [decide_eq_false h6, Bool.and_false]]; rfl), by go_grown⟩
end Go.Proofs.Ytoccglmlpobeeaa
