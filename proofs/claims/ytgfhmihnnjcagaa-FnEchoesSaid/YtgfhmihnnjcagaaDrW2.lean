/- walks: what the laws draw -/
import Derived.Test.YtgfhmihnnjcagaaDrW
set_option linter.unusedVariables false
set_option linter.unusedSimpArgs false
namespace Go.Proofs.Ytgfhmihnnjcagaa
open Go.RowKit

set_option maxHeartbeats 4000000 in
theorem dCors_any (A : Option Addr) (n c : Nat) (w : World) (hr : RdB w A n) (hm : n ≤ 4096) : Calls Try.prog 59 #[.slice A n c] w (LstDraw 500 w) := by
  go_enter Try.func59, Try.ntmps59
  go_wp2_with fail
  refine (from_any A n c _ hr hm).mono ?_
  rintro en w1 ⟨s, rfl, hs1, hS1, hb1⟩
  go_wp2_with fail
  refine (d09_any s _ hS1).mono ?_
  rintro en w2 ⟨v, xs, rfl, hown, hlen, hS2, hg2⟩
  obtain ⟨A9, p, c9, rfl, hp, hpc, hrd, hA⟩ := hown.sl
  have HB := Lib.hid (hb1.trans (hg2.to_below hs1 hb1.size))
  have HR := Lib.hid hrd
  clear hown hb1 hg2 hrd
  go_wp2
  go_ret
  exact ⟨A9, p, c9, xs, rfl, hp, hpc, by omega, HR.out, hA, HB.out⟩
end Go.Proofs.Ytgfhmihnnjcagaa
