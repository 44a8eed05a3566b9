/- walks: slices of int64 -/
import Derived.Test.YtfmhbphbgdijpaaProg
import Derived.Test.YtfmhbphbgdijpaaLists
import Derived.Test.YtfmhbphbgdijpaaMem
import Derived.Test.YtfmhbphbgdijpaaW1
import Derived.WalkKit
import Derived.WalkSpells
import Derived.WalkLawsBesides
import Derived.Handy
import Derived.Deep.RegionHeld3
import Derived.Lib.Hide
import Derived.Deep.QuietTactic
import Derived.BigQuiet
set_option linter.unusedVariables false
set_option linter.unusedSimpArgs false
namespace Go.Proofs.Ytfmhbphbgdijpaa
open Go.RowKit
theorem info_i64 : (Try.prog.info? 2).map (fun i => (i.zero, i.size, i.bytes)) = some (some (.int .i64 0), 1, 8) := by kernel_rfl

theorem mk_ints (n : Nat) (hn : n ≤ 1099511627776) (w : World) :
    (Instr.makeSlice 22 (.int .i64 (n : Int)) (.int .i64 (n : Int))).run Try.prog w = .ok (.slice (some ⟨w.heap.size, 0, none⟩) n n) (w.alloc (.cells (zeros n) 2)) := by
  obtain ⟨i0, hi, hz0, hz1, hz2⟩ := info_parts info_i64
  exact make_zeros 22 2 i0 Try.underlying22 hi hz0 hz1 hz2 n hn w

set_option maxHeartbeats 1000000 in
theorem areWithin_any (A : Option Addr) (n c : Nat) (lo hi : Int) (xs : List Int) (w : World) (hn : xs.length = n) (hm : n ≤ 9223372036854775807) (hr : Rd w A xs) :
    Calls Try.prog 56 #[.slice A n c, .int .i64 lo, .int .i64 hi] w fun en w9 => en = .returned (.bool (allIn lo hi xs)) ∧ w = w9 := by
  rcases hr with rfl | ⟨b, off, rfl, hc⟩
  · obtain rfl : n = 0 := by simpa using hn.symm
    go_enter Try.func56, Try.ntmps56
    go_wp2
    refine wp_loop_rounds 1 ?_
    rw [rounds_succ]
    go_wp2
    go_ret
    exact ⟨rfl, rfl⟩
  · have HC := Lib.hid hc; clear hc
    have HN := Lib.hid hn; clear hn
    go_enter Try.func56, Try.ntmps56
    go_wp2
    go_loop [11] (fun i => ∃ k : Nat, k ≤ n ∧ i = .int .i64 (k : Int) ∧ Hid (allIn lo hi (xs.take k) = true)) (fun i => n - (intOf i).toNat)
    case atStart => exact ⟨0, Nat.zero_le _, rfl, rfl⟩
    case round =>
      obtain ⟨k, hk, rfl, HA⟩ := hrel
      by_cases hlt : k < n
      · have hck := HC.out k (by rw [HN.out]; exact hlt)
        obtain ⟨x, hx⟩ : ∃ x, x = xs.getD k 0 := ⟨_, rfl⟩
        rw [← hx] at hck
        have HX := Lib.hid hx; clear hx
        rcases Bool.eq_false_or_eq_true (inR x lo hi) with hin | hin
        · have HA2 := Lib.hid (allIn_snoc (by rw [HN.out]; exact hlt) HA.out (by rw [← HX.out]; exact hin))
          go_wp2_with (first | (go_at_call 54; refine (within_any _ _ _ _).mono ?_; rintro en w1 ⟨rfl, rfl⟩))
          go_round
          case rel => exact ⟨k + 1, by omega, by go_num, HA2⟩
          case measure => simp [intOf]; omega
        · have HA2 := Lib.hid (allIn_out (lo := lo) (hi := hi) (by rw [HN.out]; exact hlt) (by rw [← HX.out]; exact hin))
          go_wp2_with (first | (go_at_call 54; refine (within_any _ _ _ _).mono ?_; rintro en w1 ⟨rfl, rfl⟩))
          go_ret
          refine ⟨?_, rfl⟩
          rw [HA2.out]; rfl
      · obtain rfl : k = n := by omega
        have HA2 := Lib.hid (allIn_all HN.out HA.out)
        go_wp2
        go_ret
        refine ⟨?_, rfl⟩
        rw [HA2.out]; rfl

set_option maxHeartbeats 1000000 in
theorem l01Within_any (A : Option Addr) (n c : Nat) (most lo hi : Int) (xs : List Int) (w : World) (hn : xs.length = n) (hm : n ≤ 9223372036854775807) (hr : Rd w A xs) :
    Calls Try.prog 53 #[.slice A n c, .int .i64 most, .int .i64 lo, .int .i64 hi] w fun en w9 => en = .returned (.bool (allIn lo hi xs && decide ((n : Int) ≤ most))) ∧ w = w9 := by
  rcases hr with rfl | ⟨b, off, rfl, hc⟩
  · obtain rfl : n = 0 := by simpa using hn.symm
    go_enter Try.func53, Try.ntmps53
    go_wp2
    refine wp_loop_rounds 1 ?_
    rw [rounds_succ]
    go_wp2
    go_ret
    exact ⟨by simp [allIn], rfl⟩
  · have HC := Lib.hid hc; clear hc
    have HN := Lib.hid hn; clear hn
    go_enter Try.func53, Try.ntmps53
    go_wp2
    go_loop [9] (fun i => ∃ k : Nat, k ≤ n ∧ i = .int .i64 (k : Int) ∧ Hid (allIn lo hi (xs.take k) = true)) (fun i => n - (intOf i).toNat)
    case atStart => exact ⟨0, Nat.zero_le _, rfl, rfl⟩
    case round =>
      obtain ⟨k, hk, rfl, HA⟩ := hrel
      by_cases hlt : k < n
      · have hck := HC.out k (by rw [HN.out]; exact hlt)
        obtain ⟨x, hx⟩ : ∃ x, x = xs.getD k 0 := ⟨_, rfl⟩
        rw [← hx] at hck
        have HX := Lib.hid hx; clear hx
        rcases Bool.eq_false_or_eq_true (inR x lo hi) with hin | hin
        · have HA2 := Lib.hid (allIn_snoc (by rw [HN.out]; exact hlt) HA.out (by rw [← HX.out]; exact hin))
          go_wp2_with (first | (go_at_call 91; refine (l01In_any _ _ _ _).mono ?_; rintro en w1 ⟨rfl, rfl⟩))
          go_round
          case rel => exact ⟨k + 1, by omega, by go_num, HA2⟩
          case measure => simp [intOf]; omega
        · have HA2 := Lib.hid (allIn_out (lo := lo) (hi := hi) (by rw [HN.out]; exact hlt) (by rw [← HX.out]; exact hin))
          go_wp2_with (first | (go_at_call 91; refine (l01In_any _ _ _ _).mono ?_; rintro en w1 ⟨rfl, rfl⟩))
          go_ret
          refine ⟨?_, rfl⟩
          rw [HA2.out]; rfl
      · obtain rfl : k = n := by omega
        have HA2 := Lib.hid (allIn_all HN.out HA.out)
        go_wp2
        go_ret
        refine ⟨?_, rfl⟩
        rw [HA2.out]; rfl

/-- the first k of xs, zeros behind them -/
def part (xs : List Int) (k : Nat) : List Int := xs.take k ++ List.replicate (xs.length - k) 0
theorem part_len (xs : List Int) (k : Nat) (h : k ≤ xs.length) : (part xs k).length = xs.length := by simp [part]; omega
theorem part_zero (xs : List Int) : part xs 0 = List.replicate xs.length 0 := by simp [part]
theorem part_all (xs : List Int) {n : Nat} (h : xs.length = n) : part xs n = xs := by
  subst h; simp [part]
theorem part_set (xs : List Int) (k : Nat) (h : k < xs.length) : (part xs k).set k (xs.getD k 0) = part xs (k + 1) := by
  unfold part
  rw [take_snoc h, List.set_append_right _ _ (by simp; omega)]
  have e : xs.length - k = (xs.length - (k + 1)) + 1 := by omega
  rw [e, List.replicate_succ]
  have e2 : k - (xs.take k).length = 0 := by simp; omega
  rw [e2]; simp
set_option maxHeartbeats 1000000 in
theorem toInt64S_any (A : Option Addr) (n c : Nat) (xs : List Int) (w : World) (hn : xs.length = n) (hm : n ≤ 1099511627776) (hr : Rd w A xs) :
    Calls Try.prog 15 #[.slice A n c] w fun en w9 => en = .returned (.slice (some ⟨w.heap.size, 0, none⟩) n n) ∧ w.heap.size + 1 ≤ w9.heap.size ∧ Cells w9 w.heap.size 0 xs ∧ Below w.heap.size w w9 := by
  have hmk := mk_ints n hm
  rcases hr with rfl | ⟨b, off, rfl, hc⟩
  · obtain rfl : n = 0 := by simpa using hn.symm
    have hmk0 : ∀ w : World, (Instr.makeSlice 22 (.int .i64 0) (.int .i64 0)).run Try.prog w = .ok (.slice (some ⟨w.heap.size, 0, none⟩) 0 0) (w.alloc (.cells (zeros 0) 2)) := mk_ints 0 (by omega)
    clear hmk
    go_enter Try.func15, Try.ntmps15
    go_wp2
    refine wp_loop_rounds 1 ?_
    rw [rounds_succ]
    go_wp2
    go_ret
    exact ⟨rfl, by simp, Cells.nil _ _ _, by go_grown⟩
  · have HC := Lib.hid hc; clear hc
    have HN := Lib.hid hn; clear hn
    have HS : Hid (Cells (w.alloc (.cells (zeros n) 2)) w.heap.size 0 (part xs 0)) := by
      show Cells _ _ _ _
      rw [part_zero, HN.out]; exact zeros_cells w 2 n
    go_enter Try.func15, Try.ntmps15
    go_wp2
    go_loopw [4] (fun i wr => ∃ k : Nat, k ≤ n ∧ i = .int .i64 (k : Int) ∧ Hid (Cells wr w.heap.size 0 (part xs k)) ∧ w.heap.size + 1 ≤ wr.heap.size ∧ Below w.heap.size w wr) (fun i _ => n - (intOf i).toNat)
    case atStart => exact ⟨0, Nat.zero_le _, rfl, HS, by simp, by go_grown⟩
    case round =>
      obtain ⟨k, hk, rfl, HK, hsz, hbel⟩ := hrel
      by_cases hlt : k < n
      · have hx0 := HC.out k (by rw [HN.out]; exact hlt)
        have hck := (hbel.cell (World.block_lt_of_cell? w _ hx0)).trans hx0
        obtain ⟨x, hx⟩ : ∃ x, x = xs.getD k 0 := ⟨_, rfl⟩
        rw [← hx] at hck
        have HX := Lib.hid hx; clear hx hx0
        have hl : k < (part xs k).length := by rw [part_len xs k (by rw [HN.out]; omega), HN.out]; exact hlt
        have hd := HK.out.1 k hl
        have hf := HK.out.2 k hl
        simp only [Nat.zero_add] at hd hf
        obtain ⟨y, hy⟩ : ∃ y, y = (part xs k).getD k 0 := ⟨_, rfl⟩
        rw [← hy] at hd
        clear hy
        have HK2 : Hid (Cells (wr.setCell ⟨w.heap.size, k, none⟩ (.int .i64 x)) w.heap.size 0 (part xs (k + 1))) := by
          show Cells _ _ _ _
          have h2 := HK.out.put k x hl
          rw [Nat.zero_add, HX.out, part_set xs k (by rw [HN.out]; exact hlt), ← HX.out] at h2
          exact h2
        clear hl
        go_wp2
        go_roundw
        case rel => exact ⟨k + 1, by omega, by go_num, HK2, by simpa [World.setCell] using hsz, hbel.setCell (Nat.le_refl _) _⟩
        case measure => simp [intOf]; omega
      · obtain rfl : k = n := by omega
        go_wp2
        go_ret
        exact ⟨rfl, hsz, by have h2 := HK.out; rwa [part_all xs HN.out] at h2, hbel⟩

theorem pre_eq {xs ys : List Int} {k : Nat} (h : ∀ i, i < k → xs.getD i 0 = ys.getD i 0) (hk : xs.getD k 0 = ys.getD k 0) : ∀ i, i < k + 1 → xs.getD i 0 = ys.getD i 0 := fun i hi => by
  rcases Nat.lt_or_ge i k with h1 | h1
  · exact h i h1
  · have : i = k := by omega
    subst this; exact hk
set_option maxHeartbeats 1000000 in
theorem eqInt64S_any (A B : Option Addr) (n m c d : Nat) (xs ys : List Int) (w : World) (hn : xs.length = n) (hn2 : ys.length = m) (hm : n ≤ 9223372036854775807) (hm2 : m ≤ 9223372036854775807) (hr : Rd w A xs) (hr2 : Rd w B ys) :
    Calls Try.prog 17 #[.slice A n c, .slice B m d] w fun en w9 => en = .returned (.bool (decide (xs = ys))) ∧ Below w.heap.size w w9 := by
  by_cases hl : n = m
  · subst hl
    rcases hr with rfl | ⟨b, off, rfl, hc⟩
    · obtain rfl : n = 0 := by simpa using hn.symm
      have e : ys = [] := List.eq_nil_of_length_eq_zero hn2
      have E := Lib.hid e; clear e hn hn2
      go_enter Try.func17, Try.ntmps17
      go_wp2
      refine wp_loop_rounds 1 ?_
      rw [rounds_succ]
      go_wp2
      go_ret
      exact ⟨by rw [E.out]; rfl, by go_grown⟩
    · rcases hr2 with rfl | ⟨b2, off2, rfl, hc2⟩
      · obtain rfl : n = 0 := by simpa using hn2.symm
        have e : xs = [] := List.eq_nil_of_length_eq_zero hn
        have E := Lib.hid e; clear e hn hn2 hc
        go_enter Try.func17, Try.ntmps17
        go_wp2
        refine wp_loop_rounds 1 ?_
        rw [rounds_succ]
        go_wp2
        go_ret
        exact ⟨by rw [E.out]; rfl, by go_grown⟩
      · have HC := Lib.hid hc; have HC2 := Lib.hid hc2; have HN := Lib.hid hn; have HN2 := Lib.hid hn2
        clear hc hc2 hn hn2
        have hne : ((n : Int) != n) = false := by simp
        go_enter Try.func17, Try.ntmps17
        go_wp2
        go_loopw [5] (fun i wr => ∃ k : Nat, k ≤ n ∧ i = .int .i64 (k : Int) ∧ Hid (∀ i, i < k → xs.getD i 0 = ys.getD i 0) ∧ Below w.heap.size w wr) (fun i _ => n - (intOf i).toNat)
        case atStart => exact ⟨0, Nat.zero_le _, rfl, fun i hi => absurd hi (Nat.not_lt_zero _), Below.refl _ _⟩
        case round =>
          obtain ⟨k, hk, rfl, HK, hbel⟩ := hrel
          by_cases hlt : k < n
          · have hx0 := HC.out k (by rw [HN.out]; exact hlt)
            have hy0 := HC2.out k (by rw [HN2.out]; exact hlt)
            have hck := (hbel.cell (World.block_lt_of_cell? w _ hx0)).trans hx0
            have hdk := (hbel.cell (World.block_lt_of_cell? w _ hy0)).trans hy0
            clear hx0 hy0
            obtain ⟨x, hx⟩ : ∃ x, x = xs.getD k 0 := ⟨_, rfl⟩
            obtain ⟨y, hy⟩ : ∃ y, y = ys.getD k 0 := ⟨_, rfl⟩
            rw [← hx] at hck
            rw [← hy] at hdk
            have HX := Lib.hid hx; have HY := Lib.hid hy; clear hx hy
            have hi0 : (k : Int) < n := by omega
            by_cases hxy : x = y
            · subst hxy
              have HK2 := Lib.hid (pre_eq HK.out (HX.out.symm.trans HY.out))
              go_wp2
              go_quiet (fail)
              go_wp2
              go_roundw
              case rel => exact ⟨k + 1, by omega, by go_num, HK2, below_drewN hbel _⟩
              case measure => simp [intOf]; omega
            · have hb1 : (x == y) = false := by simpa using hxy
              have hb2 : (x != y) = true := by simpa using hxy
              have HE : Hid (¬ xs = ys) := ne_of_getD (i := k) (by rw [← HX.out, ← HY.out]; exact hxy)
              go_wp2
              go_quiet (fail)
              go_wp2
              go_ret
              exact ⟨by rw [decide_eq_false HE.out]; rfl, below_drewN hbel _⟩
          · obtain rfl : k = n := by omega
            have HE : Hid (xs = ys) := eq_of_getD (by rw [HN.out, HN2.out]) (by rw [HN.out]; exact HK.out)
            go_wp2
            go_ret
            exact ⟨by rw [decide_eq_true HE.out]; rfl, hbel⟩
  · have hb2 : ((n : Int) != m) = true := by simp; omega
    have hb1 : ((n : Int) == m) = false := by simp; omega
    have HE : Hid (¬ xs = ys) := fun e => hl (by rw [← hn, ← hn2, e])
    clear hn hn2 hr hr2
    go_enter Try.func17, Try.ntmps17
    go_wp2
    go_ret
    exact ⟨by rw [decide_eq_false HE.out]; rfl, by go_grown⟩
end Go.Proofs.Ytfmhbphbgdijpaa
