/- walks: ConfirmPatterns, ConfirmCount; the laws -/
import Derived.Test.YtoaldcibmcmfdaaW17
set_option linter.unusedVariables false
set_option linter.unusedSimpArgs false
namespace Go.Proofs.Ytoaldcibmcmfdaa
open Go.RowKit

theorem sAll_any (n k : Nat) (a m : Int) (w : World) (hn : n ≤ 12) (a0 : -1 ≤ a) (a1 : a ≤ 16) (hk0 : 1 ≤ k) (hk1 : k ≤ 12) :
    Calls Try.prog 51 #[.slice none 0 0, .int .i64 n, .int .i64 a, .int .i64 m, .int .i64 k] w fun en w9 => en = .returned (.int .i64 (cfAll n a m k)) ∧ Below w.heap.size w w9 :=
  sCount_any n k a m hn a0 a1 hk0 hk1 n (.slice none 0 0) [] w (by simp) (fun x hx => by cases hx) (.inl ⟨rfl, rfl⟩)
set_option maxHeartbeats 2000000 in
theorem sCP_any (n m k : Int) (w : World) :
    Calls Try.prog 22 #[.int .i64 n, .int .i64 m, .int .i64 k] w fun en w9 => en = .returned (.tuple #[.int .i64 (cpVal n m k), .int .i64 (cpCode n m k)]) ∧ Below w.heap.size w w9 := by
  rcases cp_parts n m k with ⟨h1, HV⟩ | ⟨h1, h2, HV⟩ | ⟨j, q, rfl, rfl, hj, q0, q1, h1, h2, HV⟩
  · have g : (inR n 0 12 && inR 0 0 16) = false := by rw [h1]; rfl
    go_enter Try.func22, Try.ntmps22
    go_wp2_with (first | (go_at_call 39; refine (sScans_any _ _ _).mono ?_; rintro en w1 ⟨rfl, rfl⟩) | (go_at_call 50; refine (sRule_any _ _ _).mono ?_; rintro en w1 ⟨rfl, rfl⟩))
    go_ret2
    exact ⟨by rw [HV.out.1, HV.out.2]; rfl, Below.refl _ _⟩
  · have g : (inR n 0 12 && inR 0 0 16) = true := by rw [h1]; rfl
    go_enter Try.func22, Try.ntmps22
    go_wp2_with (first | (go_at_call 39; refine (sScans_any _ _ _).mono ?_; rintro en w1 ⟨rfl, rfl⟩) | (go_at_call 50; refine (sRule_any _ _ _).mono ?_; rintro en w1 ⟨rfl, rfl⟩))
    go_ret2
    exact ⟨by rw [HV.out.1, HV.out.2]; rfl, Below.refl _ _⟩
  · have g : (inR (j : Int) 0 12 && inR 0 0 16) = true := by rw [h1]; rfl
    go_enter Try.func22, Try.ntmps22
    go_wp2_with (first | (go_at_call 39; refine (sScans_any _ _ _).mono ?_; rintro en w1 ⟨rfl, rfl⟩) | (go_at_call 50; refine (sRule_any _ _ _).mono ?_; rintro en w1 ⟨rfl, rfl⟩))
    refine (sAll_any j q (-1) m _ hj (by decide) (by decide) q0 q1).mono ?_
    rintro en w1 ⟨rfl, hb⟩
    go_wp2
    go_ret2
    exact ⟨by rw [HV.out.1, HV.out.2]; rfl, hb⟩
set_option maxHeartbeats 2000000 in
theorem sCC_any (n a m k : Int) (w : World) :
    Calls Try.prog 30 #[.int .i64 n, .int .i64 a, .int .i64 m, .int .i64 k] w fun en w9 => en = .returned (.tuple #[.int .i64 (ccVal n a m k), .int .i64 (ccCode n a m k)]) ∧ Below w.heap.size w w9 := by
  rcases cc_parts n a m k with ⟨h1, HV⟩ | ⟨h1, h3, HV⟩ | ⟨h1, h3, h2, HV⟩ | ⟨j, q, rfl, rfl, hj, q0, q1, a0, a1, h1, h3, h2, HV⟩
  · have g : (inR n 0 12 && inR a 0 16) = false := by rw [h1]; rfl
    go_enter Try.func30, Try.ntmps30
    go_wp2_with (first | (go_at_call 39; refine (sScans_any _ _ _).mono ?_; rintro en w1 ⟨rfl, rfl⟩) | (go_at_call 50; refine (sRule_any _ _ _).mono ?_; rintro en w1 ⟨rfl, rfl⟩))
    go_ret2
    exact ⟨by rw [HV.out.1, HV.out.2]; rfl, Below.refl _ _⟩
  · have g : (inR n 0 12 && inR a 0 16) = false := by rw [h1, h3]; rfl
    go_enter Try.func30, Try.ntmps30
    go_wp2_with (first | (go_at_call 39; refine (sScans_any _ _ _).mono ?_; rintro en w1 ⟨rfl, rfl⟩) | (go_at_call 50; refine (sRule_any _ _ _).mono ?_; rintro en w1 ⟨rfl, rfl⟩))
    go_ret2
    exact ⟨by rw [HV.out.1, HV.out.2]; rfl, Below.refl _ _⟩
  · have g : (inR n 0 12 && inR a 0 16) = true := by rw [h1, h3]; rfl
    go_enter Try.func30, Try.ntmps30
    go_wp2_with (first | (go_at_call 39; refine (sScans_any _ _ _).mono ?_; rintro en w1 ⟨rfl, rfl⟩) | (go_at_call 50; refine (sRule_any _ _ _).mono ?_; rintro en w1 ⟨rfl, rfl⟩))
    go_ret2
    exact ⟨by rw [HV.out.1, HV.out.2]; rfl, Below.refl _ _⟩
  · have g : (inR (j : Int) 0 12 && inR a 0 16) = true := by rw [h1, h3]; rfl
    go_enter Try.func30, Try.ntmps30
    go_wp2_with (first | (go_at_call 39; refine (sScans_any _ _ _).mono ?_; rintro en w1 ⟨rfl, rfl⟩) | (go_at_call 50; refine (sRule_any _ _ _).mono ?_; rintro en w1 ⟨rfl, rfl⟩))
    refine (sAll_any j q a m _ hj (by omega) a1 q0 q1).mono ?_
    rintro en w1 ⟨rfl, hb⟩
    go_wp2
    go_ret2
    exact ⟨by rw [HV.out.1, HV.out.2]; rfl, hb⟩
theorem lawCP_any (n m k : Int) (w : World) : Calls Try.prog 7 #[.int .i64 n, .int .i64 m, .int .i64 k] w fun en w9 => en = .returned (.bool true) ∧ Below w.heap.size w w9 := by
  go_enter Try.func7, Try.ntmps7
  go_wp2_with fail
  refine (sCP_any n m k _).mono ?_
  rintro en w1 ⟨rfl, hb⟩
  go_wp2_with fail
  refine (iCP_any n m k _).mono ?_
  rintro en w2 ⟨rfl, hb2⟩
  go_wp2
  go_ret
  exact ⟨rfl, bseq hb hb2⟩
theorem lawCC_any (n a m k : Int) (w : World) : Calls Try.prog 10 #[.int .i64 n, .int .i64 a, .int .i64 m, .int .i64 k] w fun en w9 => en = .returned (.bool true) ∧ Below w.heap.size w w9 := by
  go_enter Try.func10, Try.ntmps10
  go_wp2_with fail
  refine (sCC_any n a m k _).mono ?_
  rintro en w1 ⟨rfl, hb⟩
  go_wp2_with fail
  refine (iCC_any n a m k _).mono ?_
  rintro en w2 ⟨rfl, hb2⟩
  go_wp2
  go_ret
  exact ⟨rfl, bseq hb hb2⟩
end Go.Proofs.Ytoaldcibmcmfdaa
