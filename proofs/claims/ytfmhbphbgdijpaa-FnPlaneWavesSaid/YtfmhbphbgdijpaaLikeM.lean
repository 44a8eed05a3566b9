/- walks: likeLists9 -/
import Derived.Test.YtfmhbphbgdijpaaW5
import Derived.Test.YtfmhbphbgdijpaaLike
set_option linter.unusedVariables false
set_option linter.unusedSimpArgs false
namespace Go.Proofs.Ytfmhbphbgdijpaa
open Go.RowKit
set_option maxHeartbeats 1000000 in
/-- two equal lists -/
theorem likeQ_any (A B : Option Addr) (n c d : Nat) (xs : List Int) (w : World) (hn : xs.length = n) (hm : n ≤ 9223372036854775807) (hr : Rd w A xs) (hr2 : Rd w B xs) :
    Calls Try.prog 27 #[.slice A n c, .slice B n d] w fun en w9 => en = .returned (.bool true) ∧ ∃ m, w9 = w.drewN m := by
  have hne : ((n : Int) != n) = false := by simp
  rcases hr with rfl | ⟨b, off, rfl, hc⟩
  · obtain rfl : n = 0 := by simpa using hn.symm
    go_enter Try.func27, Try.ntmps27
    go_wp2
    refine wp_loop_rounds 1 ?_
    rw [rounds_succ]
    go_wp2
    go_ret
    exact ⟨rfl, 0, rfl⟩
  rcases hr2 with rfl | ⟨b2, off2, rfl, hc2⟩
  · obtain rfl : n = 0 := by simpa using hn.symm
    go_enter Try.func27, Try.ntmps27
    go_wp2
    refine wp_loop_rounds 1 ?_
    rw [rounds_succ]
    go_wp2
    go_ret
    exact ⟨rfl, 0, rfl⟩
  have HC := Lib.hid hc; have HC2 := Lib.hid hc2; have HN := Lib.hid hn
  clear hc hc2 hn
  go_enter Try.func27, Try.ntmps27
  go_wp2
  go_loopw [5] (fun i wr => ∃ k m : Nat, k ≤ n ∧ i = .int .i64 (k : Int) ∧ wr = w.drewN m) (fun i _ => n - (intOf i).toNat)
  case atStart => exact ⟨0, 0, Nat.zero_le _, rfl, rfl⟩
  case round =>
    obtain ⟨k, m, hk, rfl, hwr⟩ := hrel
    have HW := Lib.hid hwr; clear hwr
    by_cases hlt : k < n
    · have hck : wr.cell? ⟨b, off + k, none⟩ = some (.int .i64 (xs.getD k 0)) := by rw [HW.out]; exact HC.out k (by rw [HN.out]; exact hlt)
      have hdk : wr.cell? ⟨b2, off2 + k, none⟩ = some (.int .i64 (xs.getD k 0)) := by rw [HW.out]; exact HC2.out k (by rw [HN.out]; exact hlt)
      obtain ⟨x, hx⟩ : ∃ x, x = xs.getD k 0 := ⟨_, rfl⟩
      rw [← hx] at hck hdk
      clear hx
      have hi0 : (k : Int) < n := by omega
      go_wp2
      go_quiet (fail)
      go_wp2
      go_roundw
      case rel => exact ⟨k + 1, m + nq, by omega, by go_num, by rw [HW.out]; exact World.drewN_drewN _ _ _⟩
      case measure => simp [intOf]; omega
    · obtain rfl : k = n := by omega
      go_wp2
      go_ret
      exact ⟨rfl, m, HW.out⟩
set_option maxHeartbeats 1000000 in
theorem likeM_any (A B : Option Addr) (n c d : Nat) (rows : List (List Int)) (w : World) (hn : rows.length = n) (hm : n ≤ 1048576) (hr : RdM w A rows) (hr2 : RdM w B rows) :
    Calls Try.prog 50 #[.slice A n c, .slice B n d] w fun en w9 => en = .returned (.bool true) ∧ ∃ m, w9 = w.drewN m := by
  have hne : ((n : Int) != n) = false := by simp
  rcases hr with rfl | ⟨b, off, rfl, hc⟩
  · obtain rfl : n = 0 := by simpa using hn.symm
    go_enter Try.func50, Try.ntmps50
    go_wp2
    refine wp_loop_rounds 1 ?_
    rw [rounds_succ]
    go_wp2
    go_ret
    exact ⟨rfl, 0, rfl⟩
  rcases hr2 with rfl | ⟨b2, off2, rfl, hc2⟩
  · obtain rfl : n = 0 := by simpa using hn.symm
    go_enter Try.func50, Try.ntmps50
    go_wp2
    refine wp_loop_rounds 1 ?_
    rw [rounds_succ]
    go_wp2
    go_ret
    exact ⟨rfl, 0, rfl⟩
  have HC := Lib.hid hc; have HC2 := Lib.hid hc2; have HN := Lib.hid hn
  clear hc hc2 hn
  go_enter Try.func50, Try.ntmps50
  go_wp2
  go_loopw [5] (fun i wr => ∃ k m : Nat, k ≤ n ∧ i = .int .i64 (k : Int) ∧ wr = w.drewN m) (fun i _ => n - (intOf i).toNat)
  case atStart => exact ⟨0, 0, Nat.zero_le _, rfl, rfl⟩
  case round =>
    obtain ⟨k, m, hk, rfl, hwr⟩ := hrel
    have HW := Lib.hid hwr; clear hwr
    by_cases hlt : k < n
    · obtain ⟨B1, m1, c1, q1, q2, q3, q4, q5⟩ := HC.out k (by rw [HN.out]; exact hlt)
      obtain ⟨B2, m2, c2, p1, p2, p3, p4, p5⟩ := HC2.out k (by rw [HN.out]; exact hlt)
      obtain rfl : m1 = m2 := by omega
      have hck : wr.cell? ⟨b, off + k, none⟩ = some (.slice B1 m1 c1) := by rw [HW.out]; exact q1
      have hdk : wr.cell? ⟨b2, off2 + k, none⟩ = some (.slice B2 m1 c2) := by rw [HW.out]; exact p1
      have R1 : Rd wr B1 (rows.getD k []) := by rw [HW.out]; exact q5.drewN _
      have R2 : Rd wr B2 (rows.getD k []) := by rw [HW.out]; exact p5.drewN _
      clear q1 p1 q5 p5 p2
      have hi0 : (k : Int) < n := by omega
      have HX : Hid (∀ q, Calls Try.prog 27 #[.slice B1 m1 c1, .slice B2 m1 c2] (wr.drewN q) fun en w9 => en = .returned (.bool true) ∧ ∃ m, w9 = (wr.drewN q).drewN m) := fun q => likeQ_any B1 B2 m1 c1 c2 (rows.getD k []) _ q2 q4 (R1.drewN _) (R2.drewN _)
      clear q2 R1 R2
      go_wp2
      go_quiet (first | (go_at_call 27; exact Calls.quiet_of (HX.out _)))
      go_wp2
      go_roundw
      case rel => exact ⟨k + 1, m + nq, by omega, by go_num, by rw [HW.out]; exact World.drewN_drewN _ _ _⟩
      case measure => simp [intOf]; omega
    · obtain rfl : k = n := by omega
      go_wp2
      go_ret
      exact ⟨rfl, m, HW.out⟩
end Go.Proofs.Ytfmhbphbgdijpaa
