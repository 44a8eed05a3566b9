/- walks: slices of directions -/
import Derived.Test.YtfmhbphbgdijpaaTrips
import Derived.Test.YtfmhbphbgdijpaaW11
import Derived.Deep.QuietTactic
import Derived.BigQuiet
set_option linter.unusedVariables false
set_option linter.unusedSimpArgs false
namespace Go.Proofs.Ytfmhbphbgdijpaa
open Go.RowKit

theorem info_dr : (Try.prog.info? 42).map (fun i => (i.zero, i.size, i.bytes)) = some (some (.agg #[.int .i64 0, .int .i64 0, .int .i64 0]), 3, 24) := by kernel_rfl
theorem mk_trips (n : Nat) (hn : n ≤ 1099511627776) (w : World) :
    (Instr.makeSlice 35 (.int .i64 (n : Int)) (.int .i64 (n : Int))).run Try.prog w = .ok (.slice (some ⟨w.heap.size, 0, none⟩) n n) (w.alloc (.cells (madeCells #[.int .i64 0, .int .i64 0, .int .i64 0] (n * 3)) 42)) := by
  obtain ⟨i0, hi, hz0, hz1, hz2⟩ := info_parts info_dr
  exact make_trips 35 42 i0 Try.underlying35 hi hz0 hz1 hz2 n hn w
set_option maxHeartbeats 2000000 in
theorem toDirS_any (A : Option Addr) (n c : Nat) (f g e : Nat → Int) (w : World) (hm : n ≤ 1099511627776) (hr : RdD w A n f g e) :
    Calls Try.prog 47 #[.slice A n c] w fun en w9 => en = .returned (.slice (some ⟨w.heap.size, 0, none⟩) n n) ∧ TC w9 w.heap.size n f g e ∧ Below w.heap.size w w9 := by
  have hmk := mk_trips n hm
  rcases hr with rfl | ⟨b, off, rfl, hc⟩
  · have hmk0 : ∀ w : World, (Instr.makeSlice 35 (.int .i64 0) (.int .i64 0)).run Try.prog w = .ok (.slice (some ⟨w.heap.size, 0, none⟩) 0 0) (w.alloc (.cells (madeCells #[.int .i64 0, .int .i64 0, .int .i64 0] (0 * 3)) 42)) := mk_trips 0 (by omega)
    clear hmk
    go_enter Try.func47, Try.ntmps47
    go_wp2
    refine wp_loop_rounds 1 ?_
    rw [rounds_succ]
    go_wp2
    go_ret
    exact ⟨rfl, fun j hj => absurd hj (Nat.not_lt_zero _), by go_grown⟩
  · have HC := Lib.hid hc; clear hc
    have HS : Hid (TC (w.alloc (.cells (madeCells #[.int .i64 0, .int .i64 0, .int .i64 0] (n * 3)) 42)) w.heap.size n (upto 0 f) (upto 0 g) (upto 0 e)) := trips_zero w 42 n f g e
    go_enter Try.func47, Try.ntmps47
    go_wp2
    go_loopw [4] (fun i wr => ∃ k : Nat, k ≤ n ∧ i = .int .i64 (k : Int) ∧ Hid (TC wr w.heap.size n (upto k f) (upto k g) (upto k e)) ∧ w.heap.size + 1 ≤ wr.heap.size ∧ Below w.heap.size w wr) (fun i _ => n - (intOf i).toNat)
    case atStart => exact ⟨0, Nat.zero_le _, rfl, HS, by simp, by go_grown⟩
    case round =>
      obtain ⟨k, hk, rfl, HK, hsz, hbel⟩ := hrel
      by_cases hlt : k < n
      · obtain ⟨hx0, hy0, hv0⟩ := HC.out k hlt
        have hx := (hbel.cell (World.block_lt_of_cell? w _ hx0)).trans hx0
        have hy := (hbel.cell (World.block_lt_of_cell? w _ hy0)).trans hy0
        have hv := (hbel.cell (World.block_lt_of_cell? w _ hv0)).trans hv0
        clear hx0 hy0 hv0
        obtain ⟨x, ex⟩ : ∃ x, x = f k := ⟨_, rfl⟩
        obtain ⟨y, ey⟩ : ∃ y, y = g k := ⟨_, rfl⟩
        obtain ⟨z, ez⟩ : ∃ z, z = e k := ⟨_, rfl⟩
        rw [← ex] at hx; rw [← ey] at hy; rw [← ez] at hv
        have EX := Lib.hid ex; have EY := Lib.hid ey; have EZ := Lib.hid ez; clear ex ey ez
        have hi0 : (0 : Int) ≤ k := by omega
        have hi1 : (k : Int) < n := by omega
        go_wp2_with fail
        refine (toDir_any _ _ _ _).mono ?_
        rintro en wx ⟨rfl, hbx⟩
        have hp := HK.out.below hbx
        obtain ⟨⟨c1, c2, c3⟩, z1, z2, z3⟩ := hp k hlt
        obtain ⟨x2, ex2⟩ : ∃ x, x = upto k f k := ⟨_, rfl⟩
        obtain ⟨y2, ey2⟩ : ∃ y, y = upto k g k := ⟨_, rfl⟩
        obtain ⟨v2, ev2⟩ : ∃ y, y = upto k e k := ⟨_, rfl⟩
        rw [← ex2] at c1; rw [← ey2] at c2; rw [← ev2] at c3
        clear ex2 ey2 ev2
        have HP : Hid (TC (((wx.setCell ⟨w.heap.size, k * 3, none⟩ (.int .i64 x)).setCell ⟨w.heap.size, k * 3 + 1, none⟩ (.int .i64 y)).setCell ⟨w.heap.size, k * 3 + 2, none⟩ (.int .i64 z)) w.heap.size n (upto (k + 1) f) (upto (k + 1) g) (upto (k + 1) e)) := by
          show TC _ _ _ _ _ _
          rw [EX.out, EY.out, EZ.out]; exact hp.put hlt
        clear hp
        have hwx : Below w.heap.size w wx := hbel.trans (hbx.mono hbel.size)
        go_wp2
        go_roundw
        case rel => exact ⟨k + 1, by omega, by go_num, HP, by have := hwx.size; have := hbx.size; simp [World.setCell]; omega, ((hwx.setCell (Nat.le_refl _) _).setCell (Nat.le_refl _) _).setCell (Nat.le_refl _) _⟩
        case measure => simp [intOf]; omega
      · obtain rfl : k = n := by omega
        go_wp2
        go_ret
        exact ⟨rfl, HK.out.all, hbel⟩
theorem eqDir_any (x y z : Int) (w : World) : Calls Try.prog 92 #[.agg #[.int .i64 x, .int .i64 y, .int .i64 z], .agg #[.int .i64 x, .int .i64 y, .int .i64 z]] w fun en w9 => en = .returned (.bool true) ∧ Below w.heap.size w w9 := by
  go_enter Try.func92, Try.ntmps92
  go_wp2
  go_ret
  exact ⟨rfl, by go_grown⟩
theorem szD_any (A : Option Addr) (n c : Nat) (l : Int) (w : World) (hm : n ≤ 9223372036854775807) (h0 : 0 ≤ l) (h1 : l ≤ 1048576) :
    Calls Try.prog 46 #[.slice A n c, .int .i64 l] w fun en w9 => en = .returned (.int .i64 (if l < n then -1 else l - n)) ∧ w = w9 := by
  by_cases h : l < n
  · rw [if_pos h]
    have h2 : l - (n : Int) < 0 := by omega
    go_enter Try.func46, Try.ntmps46
    go_wp2
    go_ret
    exact ⟨rfl, rfl⟩
  · rw [if_neg h]
    have h2 : ¬ l - (n : Int) < 0 := by omega
    go_enter Try.func46, Try.ntmps46
    go_wp2
    go_ret
    exact ⟨rfl, rfl⟩
theorem eqDirS_any (A B : Option Addr) (n c d : Nat) (f g e : Nat → Int) (w : World) (hm : n ≤ 1099511627776) (hr : RdD w A n f g e) (hr2 : RdD w B n f g e) :
    Calls Try.prog 48 #[.slice A n c, .slice B n d] w fun en w9 => en = .returned (.bool true) ∧ Below w.heap.size w w9 := by
  have hne : ((n : Int) != n) = false := by simp
  rcases hr with rfl | ⟨b, off, rfl, hc⟩
  · go_enter Try.func48, Try.ntmps48
    go_wp2
    refine wp_loop_rounds 1 ?_
    rw [rounds_succ]
    go_wp2
    go_ret
    exact ⟨rfl, by go_grown⟩
  · rcases hr2 with rfl | ⟨b2, off2, rfl, hc2⟩
    · go_enter Try.func48, Try.ntmps48
      go_wp2
      refine wp_loop_rounds 1 ?_
      rw [rounds_succ]
      go_wp2
      go_ret
      exact ⟨rfl, by go_grown⟩
    · have HC := Lib.hid hc; have HC2 := Lib.hid hc2; clear hc hc2
      go_enter Try.func48, Try.ntmps48
      go_wp2
      go_loopw [5] (fun i wr => ∃ k : Nat, k ≤ n ∧ i = .int .i64 (k : Int) ∧ Below w.heap.size w wr) (fun i _ => n - (intOf i).toNat)
      case atStart => exact ⟨0, Nat.zero_le _, rfl, by go_grown⟩
      case round =>
        obtain ⟨k, hk, rfl, hbel⟩ := hrel
        by_cases hlt : k < n
        · obtain ⟨hx0, hy0, hz0⟩ := HC.out k hlt
          obtain ⟨hu0, hv0, ht0⟩ := HC2.out k hlt
          have HT : Hid (∀ X : World, Below w.heap.size w X → X.cell? ⟨b, off + k * 3, none⟩ = some (.int .i64 (f k)) ∧ X.cell? ⟨b, off + k * 3 + 1, none⟩ = some (.int .i64 (g k)) ∧ X.cell? ⟨b, off + k * 3 + 2, none⟩ = some (.int .i64 (e k)) ∧ X.cell? ⟨b2, off2 + k * 3, none⟩ = some (.int .i64 (f k)) ∧ X.cell? ⟨b2, off2 + k * 3 + 1, none⟩ = some (.int .i64 (g k)) ∧ X.cell? ⟨b2, off2 + k * 3 + 2, none⟩ = some (.int .i64 (e k))) := fun X hB => ⟨later hB hx0, later hB hy0, later hB hz0, later hB hu0, later hB hv0, later hB ht0⟩
          clear hx0 hy0 hz0 hu0 hv0 ht0
          have HT0 := HT.out wr hbel
          obtain ⟨q1, q2, q3, q4, q5, q6⟩ := HT0
          generalize f k = x at *
          generalize g k = y at *
          generalize e k = z at *
          have hi0 : (0 : Int) ≤ k := by omega
          have hi1 : (k : Int) < n := by omega
          go_wp2
          go_region_held3 (fun w9 => w9.cell? ⟨b, off + k * 3, none⟩ = some (.int .i64 x) ∧ w9.cell? ⟨b, off + k * 3 + 1, none⟩ = some (.int .i64 y) ∧ w9.cell? ⟨b, off + k * 3 + 2, none⟩ = some (.int .i64 z) ∧ w9.cell? ⟨b2, off2 + k * 3, none⟩ = some (.int .i64 x) ∧ w9.cell? ⟨b2, off2 + k * 3 + 1, none⟩ = some (.int .i64 y) ∧ w9.cell? ⟨b2, off2 + k * 3 + 2, none⟩ = some (.int .i64 z)) (first | with_reducible assumption | go_keep) (first | (go_at_call 92; refine (eqDir_any _ _ _ _).mono ?_; rintro en wx ⟨rfl, hbx⟩; have hwx : Below w.heap.size w wx := Below.trans (b := _) (Below.drew hbel) (hbx.mono hbel.size); have hp1 := later hbx q1; have hp2 := later hbx q2; have hp3 := later hbx q3; have hp4 := later hbx q4; have hp5 := later hbx q5; have hp6 := later hbx q6))
          go_wp2
          go_roundw
          case rel => exact ⟨k + 1, by omega, by go_num, hwx⟩
          case measure => simp [intOf]; omega
        · obtain rfl : k = n := by omega
          go_wp2
          go_ret
          exact ⟨rfl, hbel⟩
end Go.Proofs.Ytfmhbphbgdijpaa
