/- walks: likeInts -/
import Derived.Test.YtfmhbphbgdijpaaWL
import Derived.Test.YtfmhbphbgdijpaaDrW
set_option linter.unusedVariables false
set_option linter.unusedSimpArgs false
namespace Go.Proofs.Ytfmhbphbgdijpaa
open Go.RowKit
set_option maxHeartbeats 1000000 in
theorem like_any (A B : Option Addr) (n m c d : Nat) (xs ys : List Int) (w : World) (hn : xs.length = n) (hn2 : ys.length = m) (hm : n ≤ 9223372036854775807) (hm2 : m ≤ 9223372036854775807) (hr : Rd w A xs) (hr2 : Rd w B ys) :
    Calls Try.prog 27 #[.slice A n c, .slice B m d] w fun en w9 => en = .returned (.bool (decide (xs = ys))) ∧ Below w.heap.size w w9 := by
  by_cases hl : n = m
  · subst hl
    rcases hr with rfl | ⟨b, off, rfl, hc⟩
    · obtain rfl : n = 0 := by simpa using hn.symm
      have e : ys = [] := List.eq_nil_of_length_eq_zero hn2
      have E := Lib.hid e; clear e hn hn2
      go_enter Try.func27, Try.ntmps27
      go_wp2
      refine wp_loop_rounds 1 ?_
      rw [rounds_succ]
      go_wp2
      go_ret
      exact ⟨by rw [E.out]; rfl, by go_grown⟩
    · rcases hr2 with rfl | ⟨b2, off2, rfl, hc2⟩
      · obtain rfl : n = 0 := by simpa using hn2.symm
        have e : xs = [] := List.eq_nil_of_length_eq_zero hn
        have E := Lib.hid e; clear e hn hn2 hc
        go_enter Try.func27, Try.ntmps27
        go_wp2
        refine wp_loop_rounds 1 ?_
        rw [rounds_succ]
        go_wp2
        go_ret
        exact ⟨by rw [E.out]; rfl, by go_grown⟩
      · have HC := Lib.hid hc; have HC2 := Lib.hid hc2; have HN := Lib.hid hn; have HN2 := Lib.hid hn2
        clear hc hc2 hn hn2
        have hne : ((n : Int) != n) = false := by simp
        go_enter Try.func27, Try.ntmps27
        go_wp2
        go_loopw [5] (fun i wr => ∃ k : Nat, k ≤ n ∧ i = .int .i64 (k : Int) ∧ Hid (∀ i, i < k → xs.getD i 0 = ys.getD i 0) ∧ Below w.heap.size w wr) (fun i _ => n - (intOf i).toNat)
        case atStart => exact ⟨0, Nat.zero_le _, rfl, fun i hi => absurd hi (Nat.not_lt_zero _), Below.refl _ _⟩
        case round =>
          obtain ⟨k, hk, rfl, HK, hbel⟩ := hrel
          by_cases hlt : k < n
          · have hx0 := HC.out k (by rw [HN.out]; exact hlt)
            have hy0 := HC2.out k (by rw [HN2.out]; exact hlt)
            have hck := (hbel.cell (World.block_lt_of_cell? w _ hx0)).trans hx0
            have hdk := (hbel.cell (World.block_lt_of_cell? w _ hy0)).trans hy0
            clear hx0 hy0
            obtain ⟨x, hx⟩ : ∃ x, x = xs.getD k 0 := ⟨_, rfl⟩
            obtain ⟨y, hy⟩ : ∃ y, y = ys.getD k 0 := ⟨_, rfl⟩
            rw [← hx] at hck
            rw [← hy] at hdk
            have HX := Lib.hid hx; have HY := Lib.hid hy; clear hx hy
            have hi0 : (k : Int) < n := by omega
            by_cases hxy : x = y
            · subst hxy
              have HK2 := Lib.hid (pre_eq HK.out (HX.out.symm.trans HY.out))
              go_wp2
              go_quiet (fail)
              go_wp2
              go_roundw
              case rel => exact ⟨k + 1, by omega, by go_num, HK2, below_drewN hbel _⟩
              case measure => simp [intOf]; omega
            · have hb1 : (x == y) = false := by simpa using hxy
              have hb2 : (x != y) = true := by simpa using hxy
              have HE : Hid (¬ xs = ys) := ne_of_getD (i := k) (by rw [← HX.out, ← HY.out]; exact hxy)
              go_wp2
              go_quiet (fail)
              go_wp2
              go_ret
              exact ⟨by rw [decide_eq_false HE.out]; rfl, below_drewN hbel _⟩
          · obtain rfl : k = n := by omega
            have HE : Hid (xs = ys) := eq_of_getD (by rw [HN.out, HN2.out]) (by rw [HN.out]; exact HK.out)
            go_wp2
            go_ret
            exact ⟨by rw [decide_eq_true HE.out]; rfl, hbel⟩
  · have hb2 : ((n : Int) != m) = true := by simp; omega
    have hb1 : ((n : Int) == m) = false := by simp; omega
    have HE : Hid (¬ xs = ys) := fun e => hl (by rw [← hn, ← hn2, e])
    clear hn hn2 hr hr2
    go_enter Try.func27, Try.ntmps27
    go_wp2
    go_ret
    exact ⟨by rw [decide_eq_false HE.out]; rfl, by go_grown⟩

theorem likeT_any (A B : Option Addr) (n m c d : Nat) (xs ys : List Int) (w : World) (hn : xs.length = n) (hn2 : ys.length = m) (hm : n ≤ 9223372036854775807) (hm2 : m ≤ 9223372036854775807) (hr : Rd w A xs) (hr2 : Rd w B ys) (he : xs = ys) :
    Calls Try.prog 27 #[.slice A n c, .slice B m d] w fun en w9 => en = .returned (.bool true) ∧ Below w.heap.size w w9 :=
  (like_any A B n m c d xs ys w hn hn2 hm hm2 hr hr2).mono fun en w9 h => ⟨by rw [h.1, decide_eq_true he], h.2⟩
end Go.Proofs.Ytfmhbphbgdijpaa
