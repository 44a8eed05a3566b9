/- the law, walked: AreContacts -/
import Derived.Test.YtoccglmlpobeeaaW23
set_option linter.unusedVariables false
set_option linter.unusedSimpArgs false
namespace Go.Proofs.Ytoccglmlpobeeaa
open Go.RowKit

set_option maxHeartbeats 2000000 in
theorem lawContacts_any (A : Option Addr) (n c : Nat) (f g : Nat → Int) (w : World) (hm : n ≤ 9223372036854775807) (hr : RdP w A n f g) :
    Calls Try.prog 14 #[.slice A n c] w fun en w9 => en = .returned (.bool true) ∧ Below w.heap.size w w9 := by
  by_cases hbig : 1048576 < n
  · go_enter Try.func14, Try.ntmps14
    go_wp2_with fail
    refine (szBig_any A n c _ hbig hm).mono ?_
    rintro en wz ⟨rfl, rfl⟩
    go_wp2
    go_ret
    exact ⟨rfl, Below.refl _ _⟩
  · have hn : n ≤ 1048576 := by omega
    have hn2 : ¬ ((1048576 : Int) - n) < 0 := by omega
    go_enter Try.func14, Try.ntmps14
    go_wp2_with fail
    refine (szSmall_any A n c _ hn).mono ?_
    rintro en wz ⟨rfl, rfl⟩
    go_wp2_with fail
    refine (toContactS_any A n c f g _ (by omega) hr).mono ?_
    rintro en w1 ⟨rfl, p1, hb1⟩
    have hr1 := hr.below hb1
    go_wp2_with fail
    refine (sAreContacts_any _ n n f g _ (by omega) p1.rd).mono ?_
    rintro en w2 ⟨rfl, hb2⟩
    have hr2 := hr1.below hb2
    go_wp2_with fail
    refine (toContactS_any A n c f g _ (by omega) hr2).mono ?_
    rintro en w3 ⟨rfl, p3, hb3⟩
    have hr3 := hr2.below hb3
    go_wp2_with fail
    refine (iAreContacts_any _ n n f g _ (by omega) p3.rd).mono ?_
    rintro en w4 ⟨rfl, hb4⟩
    have hr4 := hr3.below hb4
    have p4 := p3.below hb4
    go_wp2_with fail
    refine (toContactS_any A n c f g _ (by omega) hr4).mono ?_
    rintro en w5 ⟨rfl, p5, hb5⟩
    have p6 := p4.below hb5
    go_wp2_with fail
    refine (eqContactS_any _ _ n n n f g _ (by omega) p6.rd p5.rd).mono ?_
    rintro en w6 ⟨rfl, hb6⟩
    go_wp2
    go_ret
    exact ⟨rfl, bseq hb1 (bseq hb2 (bseq hb3 (bseq hb4 (bseq hb5 hb6))))⟩
end Go.Proofs.Ytoccglmlpobeeaa
