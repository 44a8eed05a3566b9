/- walks: PeaksOver, the reference -/
import Derived.Test.YtgfhmihnnjcagaaW18
import Derived.Test.YtgfhmihnnjcagaaW4
set_option linter.unusedVariables false
set_option linter.unusedSimpArgs false
namespace Go.Proofs.Ytgfhmihnnjcagaa
open Go.RowKit

theorem near_snoc {cs : List Int} {g i : Int} {k : Nat} (h : k < cs.length) (ha : pNear (cs.take k) g i = false) (hx : ¬ iabs (cs.getD k 0 - i) ≤ g) : pNear (cs.take (k + 1)) g i = false := by
  rw [take_snoc h, pNear_snoc, ha, decide_eq_false hx]; rfl
theorem near_hit {cs : List Int} {g i : Int} {k : Nat} (h : k < cs.length) (hx : iabs (cs.getD k 0 - i) ≤ g) : pNear cs g i = true := by
  unfold pNear
  rw [List.any_eq_true]
  exact ⟨_, List.mem_of_getElem? (getD_at h), by simpa using hx⟩
def InR (cs : List Int) : Prop := ∀ x ∈ cs, 0 ≤ x ∧ x ≤ 400
theorem InR.at {cs : List Int} (h : InR cs) (i : Nat) : 0 ≤ cs.getD i 0 ∧ cs.getD i 0 ≤ 400 := by
  by_cases hi : i < cs.length
  · exact h _ (List.mem_of_getElem? (getD_at hi))
  · rw [List.getD_eq_getElem?_getD, List.getElem?_eq_none (by omega)]; decide
set_option maxHeartbeats 1000000 in
theorem near_any (A : Option Addr) (n c : Nat) (cs : List Int) (i g : Int) (w : World) (hn : cs.length = n) (hm : n ≤ 1048576) (hb : Hid (InR cs)) (hi : 0 ≤ i ∧ i ≤ 400) (hr : Rd w A cs) :
    Calls Try.prog 76 #[.slice A n c, .int .i64 i, .int .i64 g] w fun en w9 => en = .returned (.bool (pNear cs g i)) ∧ w = w9 := by
  rcases hr with rfl | ⟨b, off, rfl, hc⟩
  · obtain rfl : n = 0 := by simpa using hn.symm
    go_enter Try.func76, Try.ntmps76
    go_wp2
    refine wp_loop_rounds 1 ?_
    rw [rounds_succ]
    go_wp2
    go_ret
    exact ⟨rfl, rfl⟩
  · have HC := Lib.hid hc; clear hc
    have HN := Lib.hid hn; clear hn
    go_enter Try.func76, Try.ntmps76
    go_wp2
    go_loop [7] (fun q => ∃ k : Nat, k ≤ n ∧ q = .int .i64 (k : Int) ∧ Hid (pNear (cs.take k) g i = false)) (fun q => n - (intOf q).toNat)
    case atStart => exact ⟨0, Nat.zero_le _, rfl, rfl⟩
    case round =>
      obtain ⟨k, hk, rfl, HA⟩ := hrel
      by_cases hlt : k < n
      · have hck := HC.out k (by rw [HN.out]; exact hlt)
        have hxb := hb.out.at k
        have HUP := fun h => Lib.hid (near_snoc (cs := cs) (g := g) (i := i) (k := k) (by rw [HN.out]; exact hlt) HA.out h)
        have HHT := fun h => Lib.hid (near_hit (cs := cs) (g := g) (i := i) (k := k) (by rw [HN.out]; exact hlt) h)
        obtain ⟨x, hx⟩ : ∃ x, x = cs.getD k 0 := ⟨_, rfl⟩
        rw [← hx] at hck hxb HUP HHT
        clear hx
        have hki : (k : Int) < n := by omega
        by_cases hin : iabs (x - i) ≤ g
        · have HT := HHT hin
          clear HUP HHT
          go_wp2_with (first | (go_at_call 75; refine (sAbs_any _ _ (by omega) (by omega)).mono ?_; rintro en w1 ⟨rfl, rfl⟩))
          go_ret
          exact ⟨by rw [HT.out]; rfl, rfl⟩
        · have HT := HUP hin
          clear HUP HHT
          go_wp2_with (first | (go_at_call 75; refine (sAbs_any _ _ (by omega) (by omega)).mono ?_; rintro en w1 ⟨rfl, rfl⟩))
          go_round
          case rel => exact ⟨k + 1, by omega, by go_num, HT⟩
          case measure => simp [intOf]; omega
      · obtain rfl : k = n := by omega
        have HT : Hid (pNear cs g i = false) := by have h := HA.out; rw [List.take_of_length_le (by rw [HN.out]; omega)] at h; exact h
        go_wp2
        go_ret
        exact ⟨by rw [HT.out]; rfl, rfl⟩
end Go.Proofs.Ytgfhmihnnjcagaa
