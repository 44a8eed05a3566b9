/- the law, walked: ConfirmScan -/
import Derived.Test.YtoaldcibmcmfdaaW6
set_option linter.unusedVariables false
set_option linter.unusedSimpArgs false
namespace Go.Proofs.Ytoaldcibmcmfdaa
open Go.RowKit

set_option maxHeartbeats 2000000 in
theorem lawScan_any (A : Option Addr) (n c : Nat) (xs : List Int) (m k : Int) (w : World) (hn : xs.length = n) (hnc : n ≤ c) (hr : Rd w A xs) :
    Calls Try.prog 8 #[.slice A n c, .int .i64 m, .int .i64 k] w fun en w9 => en = .returned (.bool true) ∧ Below w.heap.size w w9 := by
  by_cases hbig : 1048576 < n
  · go_enter Try.func8, Try.ntmps8
    go_wp2
    go_ret
    exact ⟨rfl, Below.refl _ _⟩
  · go_enter Try.func8, Try.ntmps8
    go_wp2_with fail
    refine (toInt64S_any A n c xs _ hn (by omega) hr).mono ?_
    rintro en w1 ⟨rfl, hz1, hc1, hb1⟩
    have hr1 := hr.below hb1
    go_wp2_with fail
    refine (sScan_any _ n n m k xs _ hn (Nat.le_refl _) (by omega) hc1.rd).mono ?_
    rintro en w2 ⟨rfl, rfl⟩
    go_wp2_with fail
    refine (toInt64S_any A n c xs _ hn (by omega) hr1).mono ?_
    rintro en w2 ⟨rfl, hz2, hc2, hb2⟩
    have hr2 := hr1.below hb2
    go_wp2_with fail
    refine (iScan_any _ n n m k xs _ hn (Nat.le_refl _) (by omega) hc2.rd).mono ?_
    rintro en w3 ⟨rfl, rfl⟩
    go_wp2_with fail
    refine (toInt64S_any A n c xs _ hn (by omega) hr2).mono ?_
    rintro en w3 ⟨rfl, hz3, hc3, hb3⟩
    have hc2' := hc2.below hb3
    go_wp2_with fail
    refine (eqInt64S_any _ _ n n n n xs xs _ hn hn (by omega) (by omega) hc2'.rd hc3.rd).mono ?_
    rintro en w4 ⟨rfl, hb4⟩
    rw [decide_eq_true rfl]
    go_wp2
    go_ret
    exact ⟨rfl, bseq hb1 (bseq hb2 (bseq hb3 hb4))⟩
end Go.Proofs.Ytoaldcibmcmfdaa
