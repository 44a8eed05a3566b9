/- walks: directions -/
import Derived.Test.YtfmhbphbgdijpaaPlainD
import Derived.Test.YtfmhbphbgdijpaaW2
import Derived.Deep.QuietTactic
import Derived.BigQuiet
set_option linter.unusedVariables false
set_option linter.unusedSimpArgs false
namespace Go.Proofs.Ytfmhbphbgdijpaa
open Go.RowKit
set_option maxRecDepth 100000 in
set_option maxHeartbeats 4000000 in
theorem iDir_any (c s h : Int) (w : World) :
    Calls Try.prog 74 #[.agg #[.int .i64 c, .int .i64 s, .int .i64 h]] w fun en w9 => en = .returned (.bool (isDir c s h)) ∧ Below w.heap.size w w9 := by
  rcases Bool.eq_false_or_eq_true (inR h 1 1000) with h1 | h1
  rotate_left
  · have HV : Hid (isDir c s h = false) := by show _ = _; simp [isDir, h1]
    go_enter Try.func74, Try.ntmps74
    go_wp2_with fail
    have hB0 : Below w.heap.size w (w.alloc (.cells #[.int .i64 c, .int .i64 s, .int .i64 h] 42)) := by go_grown
    have c0 : (w.alloc (.cells #[.int .i64 c, .int .i64 s, .int .i64 h] 42)).cell? ⟨w.heap.size, 0, none⟩ = some (.int .i64 c) := by go_simp
    have c1 : (w.alloc (.cells #[.int .i64 c, .int .i64 s, .int .i64 h] 42)).cell? ⟨w.heap.size, 1, none⟩ = some (.int .i64 s) := by go_simp
    have c2 : (w.alloc (.cells #[.int .i64 c, .int .i64 s, .int .i64 h] 42)).cell? ⟨w.heap.size, 2, none⟩ = some (.int .i64 h) := by go_simp
    generalize w.alloc (.cells #[.int .i64 c, .int .i64 s, .int .i64 h] 42) = w1 at hB0 c0 c1 c2 ⊢
    have q0 : ∀ w : World, Calls Try.prog 54 #[.int .i64 h, .int .i64 1, .int .i64 1000] w fun en w9 => en = .returned (.bool false) ∧ w9 = w := fun w => (within_any h 1 1000 w).mono fun _ _ q => ⟨by rw [q.1, h1], q.2.symm⟩
    go_quiet (first | (go_at_call 54; with_reducible exact Calls.quiet_of_same (q0 _)))
    go_wp2
    go_ret
    exact ⟨by rw [HV.out]; rfl, below_drewN hB0 _⟩
  have b1 := inR_iff.1 h1
  rcases Bool.eq_false_or_eq_true (inR c 1 1000) with h2 | h2
  rotate_left
  · have HV : Hid (isDir c s h = false) := by show _ = _; simp [isDir, h1, h2]
    go_enter Try.func74, Try.ntmps74
    go_wp2_with fail
    have hB0 : Below w.heap.size w (w.alloc (.cells #[.int .i64 c, .int .i64 s, .int .i64 h] 42)) := by go_grown
    have c0 : (w.alloc (.cells #[.int .i64 c, .int .i64 s, .int .i64 h] 42)).cell? ⟨w.heap.size, 0, none⟩ = some (.int .i64 c) := by go_simp
    have c1 : (w.alloc (.cells #[.int .i64 c, .int .i64 s, .int .i64 h] 42)).cell? ⟨w.heap.size, 1, none⟩ = some (.int .i64 s) := by go_simp
    have c2 : (w.alloc (.cells #[.int .i64 c, .int .i64 s, .int .i64 h] 42)).cell? ⟨w.heap.size, 2, none⟩ = some (.int .i64 h) := by go_simp
    generalize w.alloc (.cells #[.int .i64 c, .int .i64 s, .int .i64 h] 42) = w1 at hB0 c0 c1 c2 ⊢
    have q0 : ∀ w : World, Calls Try.prog 54 #[.int .i64 h, .int .i64 1, .int .i64 1000] w fun en w9 => en = .returned (.bool true) ∧ w9 = w := fun w => (within_any h 1 1000 w).mono fun _ _ q => ⟨by rw [q.1, h1], q.2.symm⟩
    have q1 : ∀ w : World, Calls Try.prog 54 #[.int .i64 c, .int .i64 1, .int .i64 1000] w fun en w9 => en = .returned (.bool false) ∧ w9 = w := fun w => (within_any c 1 1000 w).mono fun _ _ q => ⟨by rw [q.1, h2], q.2.symm⟩
    go_quiet (first | (go_at_call 54; with_reducible exact Calls.quiet_of_same (q0 _)) | (go_at_call 54; with_reducible exact Calls.quiet_of_same (q1 _)))
    go_wp2
    go_ret
    exact ⟨by rw [HV.out]; rfl, below_drewN hB0 _⟩
  rcases Bool.eq_false_or_eq_true (inR s (-1000) 1000) with h3 | h3
  rotate_left
  · have HV : Hid (isDir c s h = false) := by show _ = _; simp [isDir, h1, h2, h3]
    go_enter Try.func74, Try.ntmps74
    go_wp2_with fail
    have hB0 : Below w.heap.size w (w.alloc (.cells #[.int .i64 c, .int .i64 s, .int .i64 h] 42)) := by go_grown
    have c0 : (w.alloc (.cells #[.int .i64 c, .int .i64 s, .int .i64 h] 42)).cell? ⟨w.heap.size, 0, none⟩ = some (.int .i64 c) := by go_simp
    have c1 : (w.alloc (.cells #[.int .i64 c, .int .i64 s, .int .i64 h] 42)).cell? ⟨w.heap.size, 1, none⟩ = some (.int .i64 s) := by go_simp
    have c2 : (w.alloc (.cells #[.int .i64 c, .int .i64 s, .int .i64 h] 42)).cell? ⟨w.heap.size, 2, none⟩ = some (.int .i64 h) := by go_simp
    generalize w.alloc (.cells #[.int .i64 c, .int .i64 s, .int .i64 h] 42) = w1 at hB0 c0 c1 c2 ⊢
    have q0 : ∀ w : World, Calls Try.prog 54 #[.int .i64 h, .int .i64 1, .int .i64 1000] w fun en w9 => en = .returned (.bool true) ∧ w9 = w := fun w => (within_any h 1 1000 w).mono fun _ _ q => ⟨by rw [q.1, h1], q.2.symm⟩
    have q1 : ∀ w : World, Calls Try.prog 54 #[.int .i64 c, .int .i64 1, .int .i64 1000] w fun en w9 => en = .returned (.bool true) ∧ w9 = w := fun w => (within_any c 1 1000 w).mono fun _ _ q => ⟨by rw [q.1, h2], q.2.symm⟩
    have q2 : ∀ w : World, Calls Try.prog 54 #[.int .i64 s, .int .i64 (-1000), .int .i64 1000] w fun en w9 => en = .returned (.bool false) ∧ w9 = w := fun w => (within_any s (-1000) 1000 w).mono fun _ _ q => ⟨by rw [q.1, h3], q.2.symm⟩
    go_quiet (first | (go_at_call 54; with_reducible exact Calls.quiet_of_same (q0 _)) | (go_at_call 54; with_reducible exact Calls.quiet_of_same (q1 _)) | (go_at_call 54; with_reducible exact Calls.quiet_of_same (q2 _)))
    go_wp2
    go_ret
    exact ⟨by rw [HV.out]; rfl, below_drewN hB0 _⟩
  have b2 := inR_iff.1 h2
  have b3 := inR_iff.1 h3
  rcases Bool.eq_false_or_eq_true (s != 0) with h4 | h4
  rotate_left
  · have HV : Hid (isDir c s h = false) := by show _ = _; simp [isDir, h1, h2, h3, h4]
    go_enter Try.func74, Try.ntmps74
    go_wp2_with fail
    have hB0 : Below w.heap.size w (w.alloc (.cells #[.int .i64 c, .int .i64 s, .int .i64 h] 42)) := by go_grown
    have c0 : (w.alloc (.cells #[.int .i64 c, .int .i64 s, .int .i64 h] 42)).cell? ⟨w.heap.size, 0, none⟩ = some (.int .i64 c) := by go_simp
    have c1 : (w.alloc (.cells #[.int .i64 c, .int .i64 s, .int .i64 h] 42)).cell? ⟨w.heap.size, 1, none⟩ = some (.int .i64 s) := by go_simp
    have c2 : (w.alloc (.cells #[.int .i64 c, .int .i64 s, .int .i64 h] 42)).cell? ⟨w.heap.size, 2, none⟩ = some (.int .i64 h) := by go_simp
    generalize w.alloc (.cells #[.int .i64 c, .int .i64 s, .int .i64 h] 42) = w1 at hB0 c0 c1 c2 ⊢
    have q0 : ∀ w : World, Calls Try.prog 54 #[.int .i64 h, .int .i64 1, .int .i64 1000] w fun en w9 => en = .returned (.bool true) ∧ w9 = w := fun w => (within_any h 1 1000 w).mono fun _ _ q => ⟨by rw [q.1, h1], q.2.symm⟩
    have q1 : ∀ w : World, Calls Try.prog 54 #[.int .i64 c, .int .i64 1, .int .i64 1000] w fun en w9 => en = .returned (.bool true) ∧ w9 = w := fun w => (within_any c 1 1000 w).mono fun _ _ q => ⟨by rw [q.1, h2], q.2.symm⟩
    have q2 : ∀ w : World, Calls Try.prog 54 #[.int .i64 s, .int .i64 (-1000), .int .i64 1000] w fun en w9 => en = .returned (.bool true) ∧ w9 = w := fun w => (within_any s (-1000) 1000 w).mono fun _ _ q => ⟨by rw [q.1, h3], q.2.symm⟩
    go_quiet (first | (go_at_call 54; with_reducible exact Calls.quiet_of_same (q0 _)) | (go_at_call 54; with_reducible exact Calls.quiet_of_same (q1 _)) | (go_at_call 54; with_reducible exact Calls.quiet_of_same (q2 _)))
    go_wp2
    go_ret
    exact ⟨by rw [HV.out]; rfl, below_drewN hB0 _⟩
  have m1 := bd_mul (a := c) (b := c) (A := 1000) (B := 1000) (by omega) (by omega)
  have m2 := bd_mul (a := s) (b := s) (A := 1000) (B := 1000) (by omega) (by omega)
  have m3 := bd_mul (a := h) (b := h) (A := 1000) (B := 1000) (by omega) (by omega)
  have e1 : IntKind.i64.wrap (c * c) = c * c := IntWalk.i64_in _ (by omega)
  have e2 : IntKind.i64.wrap (s * s) = s * s := IntWalk.i64_in _ (by omega)
  have e3 : IntKind.i64.wrap (h * h) = h * h := IntWalk.i64_in _ (by omega)
  have e4 : IntKind.i64.wrap (c * c + s * s) = c * c + s * s := IntWalk.i64_in _ (by omega)
  have m4 := gcd_bd c s (by omega)
  rcases Bool.eq_false_or_eq_true (c * c + s * s == h * h) with h5 | h5
  rotate_left
  · have HV : Hid (isDir c s h = false) := by show _ = _; simp [isDir, h1, h2, h3, h4, h5]
    go_enter Try.func74, Try.ntmps74
    go_wp2_with fail
    have hB0 : Below w.heap.size w (w.alloc (.cells #[.int .i64 c, .int .i64 s, .int .i64 h] 42)) := by go_grown
    have c0 : (w.alloc (.cells #[.int .i64 c, .int .i64 s, .int .i64 h] 42)).cell? ⟨w.heap.size, 0, none⟩ = some (.int .i64 c) := by go_simp
    have c1 : (w.alloc (.cells #[.int .i64 c, .int .i64 s, .int .i64 h] 42)).cell? ⟨w.heap.size, 1, none⟩ = some (.int .i64 s) := by go_simp
    have c2 : (w.alloc (.cells #[.int .i64 c, .int .i64 s, .int .i64 h] 42)).cell? ⟨w.heap.size, 2, none⟩ = some (.int .i64 h) := by go_simp
    generalize w.alloc (.cells #[.int .i64 c, .int .i64 s, .int .i64 h] 42) = w1 at hB0 c0 c1 c2 ⊢
    have q0 : ∀ w : World, Calls Try.prog 54 #[.int .i64 h, .int .i64 1, .int .i64 1000] w fun en w9 => en = .returned (.bool true) ∧ w9 = w := fun w => (within_any h 1 1000 w).mono fun _ _ q => ⟨by rw [q.1, h1], q.2.symm⟩
    have q1 : ∀ w : World, Calls Try.prog 54 #[.int .i64 c, .int .i64 1, .int .i64 1000] w fun en w9 => en = .returned (.bool true) ∧ w9 = w := fun w => (within_any c 1 1000 w).mono fun _ _ q => ⟨by rw [q.1, h2], q.2.symm⟩
    have q2 : ∀ w : World, Calls Try.prog 54 #[.int .i64 s, .int .i64 (-1000), .int .i64 1000] w fun en w9 => en = .returned (.bool true) ∧ w9 = w := fun w => (within_any s (-1000) 1000 w).mono fun _ _ q => ⟨by rw [q.1, h3], q.2.symm⟩
    go_quiet (first | (go_at_call 54; with_reducible exact Calls.quiet_of_same (q0 _)) | (go_at_call 54; with_reducible exact Calls.quiet_of_same (q1 _)) | (go_at_call 54; with_reducible exact Calls.quiet_of_same (q2 _)))
    go_wp2
    go_ret
    exact ⟨by rw [HV.out]; rfl, below_drewN hB0 _⟩
  have HV : Hid (isDir c s h = (((Int.gcd ((Int.gcd c s : Nat) : Int) h : Nat) : Int) == 1)) := by
    show _ = _; rw [gcd_one]; unfold isDir; rw [h1, h2, h3, h4, h5]; rfl
  go_enter Try.func74, Try.ntmps74
  go_wp2_with fail
  have hB0 : Below w.heap.size w (w.alloc (.cells #[.int .i64 c, .int .i64 s, .int .i64 h] 42)) := by go_grown
  have c0 : (w.alloc (.cells #[.int .i64 c, .int .i64 s, .int .i64 h] 42)).cell? ⟨w.heap.size, 0, none⟩ = some (.int .i64 c) := by go_simp
  have c1 : (w.alloc (.cells #[.int .i64 c, .int .i64 s, .int .i64 h] 42)).cell? ⟨w.heap.size, 1, none⟩ = some (.int .i64 s) := by go_simp
  have c2 : (w.alloc (.cells #[.int .i64 c, .int .i64 s, .int .i64 h] 42)).cell? ⟨w.heap.size, 2, none⟩ = some (.int .i64 h) := by go_simp
  generalize w.alloc (.cells #[.int .i64 c, .int .i64 s, .int .i64 h] 42) = w1 at hB0 c0 c1 c2 ⊢
  have q0 : ∀ w : World, Calls Try.prog 54 #[.int .i64 h, .int .i64 1, .int .i64 1000] w fun en w9 => en = .returned (.bool true) ∧ w9 = w := fun w => (within_any h 1 1000 w).mono fun _ _ q => ⟨by rw [q.1, h1], q.2.symm⟩
  have q1 : ∀ w : World, Calls Try.prog 54 #[.int .i64 c, .int .i64 1, .int .i64 1000] w fun en w9 => en = .returned (.bool true) ∧ w9 = w := fun w => (within_any c 1 1000 w).mono fun _ _ q => ⟨by rw [q.1, h2], q.2.symm⟩
  have q2 : ∀ w : World, Calls Try.prog 54 #[.int .i64 s, .int .i64 (-1000), .int .i64 1000] w fun en w9 => en = .returned (.bool true) ∧ w9 = w := fun w => (within_any s (-1000) 1000 w).mono fun _ _ q => ⟨by rw [q.1, h3], q.2.symm⟩
  have q5 : ∀ w : World, Calls Try.prog 96 #[.int .i64 c, .int .i64 s] w fun en w9 => en = .returned (.int .i64 (Int.gcd c s)) ∧ ∃ m, w9 = w.drewN m := fun w => iGcd_any c s w (by omega) (by omega)
  have q6 : ∀ w : World, Calls Try.prog 96 #[.int .i64 (Int.gcd c s), .int .i64 h] w fun en w9 => en = .returned (.int .i64 (Int.gcd ((Int.gcd c s : Nat) : Int) h)) ∧ ∃ m, w9 = w.drewN m := fun w => iGcd_any _ h w (by omega) (by omega)
  go_quiet (first | (go_at_call 54; with_reducible exact Calls.quiet_of_same (q0 _)) | (go_at_call 54; with_reducible exact Calls.quiet_of_same (q1 _)) | (go_at_call 54; with_reducible exact Calls.quiet_of_same (q2 _)) | (go_at_call 96; with_reducible exact Calls.quiet_of (q5 _)) | (go_at_call 96; with_reducible exact Calls.quiet_of (q6 _)))
  go_wp2
  go_ret
  exact ⟨by rw [HV.out]; rfl, below_drewN hB0 _⟩
set_option maxRecDepth 100000 in
set_option maxHeartbeats 4000000 in
theorem sDir_any (c s h : Int) (w : World) :
    Calls Try.prog 78 #[.agg #[.int .i64 c, .int .i64 s, .int .i64 h]] w fun en w9 => en = .returned (.bool (isDir c s h)) ∧ Below w.heap.size w w9 := by
  rcases Bool.eq_false_or_eq_true (inR h 1 1000) with h1 | h1
  rotate_left
  · have HV : Hid (isDir c s h = false) := by show _ = _; simp [isDir, h1]
    go_enter Try.func78, Try.ntmps78
    go_wp2_with fail
    have hB0 : Below w.heap.size w (w.alloc (.cells #[.int .i64 c, .int .i64 s, .int .i64 h] 42)) := by go_grown
    have c0 : (w.alloc (.cells #[.int .i64 c, .int .i64 s, .int .i64 h] 42)).cell? ⟨w.heap.size, 0, none⟩ = some (.int .i64 c) := by go_simp
    have c1 : (w.alloc (.cells #[.int .i64 c, .int .i64 s, .int .i64 h] 42)).cell? ⟨w.heap.size, 1, none⟩ = some (.int .i64 s) := by go_simp
    have c2 : (w.alloc (.cells #[.int .i64 c, .int .i64 s, .int .i64 h] 42)).cell? ⟨w.heap.size, 2, none⟩ = some (.int .i64 h) := by go_simp
    generalize w.alloc (.cells #[.int .i64 c, .int .i64 s, .int .i64 h] 42) = w1 at hB0 c0 c1 c2 ⊢
    have q0 : ∀ w : World, Calls Try.prog 91 #[.int .i64 h, .int .i64 1, .int .i64 1000] w fun en w9 => en = .returned (.bool false) ∧ w9 = w := fun w => (l01In_any h 1 1000 w).mono fun _ _ q => ⟨by rw [q.1, h1], q.2.symm⟩
    go_quiet (first | (go_at_call 91; with_reducible exact Calls.quiet_of_same (q0 _)))
    go_wp2
    go_ret
    exact ⟨by rw [HV.out]; rfl, below_drewN hB0 _⟩
  have b1 := inR_iff.1 h1
  have hneg : IntKind.i64.wrap (-h) = -h := IntWalk.i64_in _ (by omega)
  have HLEG : Hid (isDir c s h = true → (1 ≤ c ∧ c ≤ h) ∧ (-h ≤ s ∧ s ≤ h)) := by
    show _ → _
    intro hd
    have h2 := isDir_bd hd
    simp only [isDir, Bool.and_eq_true, beq_iff_eq] at hd
    have e := hd.1.2
    exact ⟨⟨h2.1.1, (leg_le (by omega) e).2⟩, leg_le (by omega) (by rw [Int.add_comm]; exact e)⟩
  rcases Bool.eq_false_or_eq_true (inR c 1 h) with h2 | h2
  rotate_left
  · have HV : Hid (isDir c s h = false) := by
      show _ = _
      cases e : isDir c s h with
      | false => rfl
      | true => exfalso; have := (HLEG.out e).1; have := inR_not.1 h2; omega
    go_enter Try.func78, Try.ntmps78
    go_wp2_with fail
    have hB0 : Below w.heap.size w (w.alloc (.cells #[.int .i64 c, .int .i64 s, .int .i64 h] 42)) := by go_grown
    have c0 : (w.alloc (.cells #[.int .i64 c, .int .i64 s, .int .i64 h] 42)).cell? ⟨w.heap.size, 0, none⟩ = some (.int .i64 c) := by go_simp
    have c1 : (w.alloc (.cells #[.int .i64 c, .int .i64 s, .int .i64 h] 42)).cell? ⟨w.heap.size, 1, none⟩ = some (.int .i64 s) := by go_simp
    have c2 : (w.alloc (.cells #[.int .i64 c, .int .i64 s, .int .i64 h] 42)).cell? ⟨w.heap.size, 2, none⟩ = some (.int .i64 h) := by go_simp
    generalize w.alloc (.cells #[.int .i64 c, .int .i64 s, .int .i64 h] 42) = w1 at hB0 c0 c1 c2 ⊢
    have q0 : ∀ w : World, Calls Try.prog 91 #[.int .i64 h, .int .i64 1, .int .i64 1000] w fun en w9 => en = .returned (.bool true) ∧ w9 = w := fun w => (l01In_any h 1 1000 w).mono fun _ _ q => ⟨by rw [q.1, h1], q.2.symm⟩
    have q1 : ∀ w : World, Calls Try.prog 91 #[.int .i64 c, .int .i64 1, .int .i64 h] w fun en w9 => en = .returned (.bool false) ∧ w9 = w := fun w => (l01In_any c 1 h w).mono fun _ _ q => ⟨by rw [q.1, h2], q.2.symm⟩
    go_quiet (first | (go_at_call 91; with_reducible exact Calls.quiet_of_same (q0 _)) | (go_at_call 91; with_reducible exact Calls.quiet_of_same (q1 _)))
    go_wp2
    go_ret
    exact ⟨by rw [HV.out]; rfl, below_drewN hB0 _⟩
  have b2 := inR_iff.1 h2
  rcases Bool.eq_false_or_eq_true (inR s (-h) h) with h3 | h3
  rotate_left
  · have HV : Hid (isDir c s h = false) := by
      show _ = _
      cases e : isDir c s h with
      | false => rfl
      | true => exfalso; have := (HLEG.out e).2; have := inR_not.1 h3; omega
    go_enter Try.func78, Try.ntmps78
    go_wp2_with fail
    have hB0 : Below w.heap.size w (w.alloc (.cells #[.int .i64 c, .int .i64 s, .int .i64 h] 42)) := by go_grown
    have c0 : (w.alloc (.cells #[.int .i64 c, .int .i64 s, .int .i64 h] 42)).cell? ⟨w.heap.size, 0, none⟩ = some (.int .i64 c) := by go_simp
    have c1 : (w.alloc (.cells #[.int .i64 c, .int .i64 s, .int .i64 h] 42)).cell? ⟨w.heap.size, 1, none⟩ = some (.int .i64 s) := by go_simp
    have c2 : (w.alloc (.cells #[.int .i64 c, .int .i64 s, .int .i64 h] 42)).cell? ⟨w.heap.size, 2, none⟩ = some (.int .i64 h) := by go_simp
    generalize w.alloc (.cells #[.int .i64 c, .int .i64 s, .int .i64 h] 42) = w1 at hB0 c0 c1 c2 ⊢
    have q0 : ∀ w : World, Calls Try.prog 91 #[.int .i64 h, .int .i64 1, .int .i64 1000] w fun en w9 => en = .returned (.bool true) ∧ w9 = w := fun w => (l01In_any h 1 1000 w).mono fun _ _ q => ⟨by rw [q.1, h1], q.2.symm⟩
    have q1 : ∀ w : World, Calls Try.prog 91 #[.int .i64 c, .int .i64 1, .int .i64 h] w fun en w9 => en = .returned (.bool true) ∧ w9 = w := fun w => (l01In_any c 1 h w).mono fun _ _ q => ⟨by rw [q.1, h2], q.2.symm⟩
    have q2 : ∀ w : World, Calls Try.prog 91 #[.int .i64 s, .int .i64 (-h), .int .i64 h] w fun en w9 => en = .returned (.bool false) ∧ w9 = w := fun w => (l01In_any s (-h) h w).mono fun _ _ q => ⟨by rw [q.1, h3], q.2.symm⟩
    go_quiet (first | (go_at_call 91; with_reducible exact Calls.quiet_of_same (q0 _)) | (go_at_call 91; with_reducible exact Calls.quiet_of_same (q1 _)) | (go_at_call 91; with_reducible exact Calls.quiet_of_same (q2 _)))
    go_wp2
    go_ret
    exact ⟨by rw [HV.out]; rfl, below_drewN hB0 _⟩
  have b3 := inR_iff.1 h3
  have H2 : inR c 1 1000 = true := inR_iff.2 (by omega)
  have H3 : inR s (-1000) 1000 = true := inR_iff.2 (by omega)
  have HH2 := Lib.hid H2
  have HH3 := Lib.hid H3
  clear H2 H3
  rcases Bool.eq_false_or_eq_true (s != 0) with h4 | h4
  rotate_left
  · have HV : Hid (isDir c s h = false) := by show _ = _; simp [isDir, h4]
    go_enter Try.func78, Try.ntmps78
    go_wp2_with fail
    have hB0 : Below w.heap.size w (w.alloc (.cells #[.int .i64 c, .int .i64 s, .int .i64 h] 42)) := by go_grown
    have c0 : (w.alloc (.cells #[.int .i64 c, .int .i64 s, .int .i64 h] 42)).cell? ⟨w.heap.size, 0, none⟩ = some (.int .i64 c) := by go_simp
    have c1 : (w.alloc (.cells #[.int .i64 c, .int .i64 s, .int .i64 h] 42)).cell? ⟨w.heap.size, 1, none⟩ = some (.int .i64 s) := by go_simp
    have c2 : (w.alloc (.cells #[.int .i64 c, .int .i64 s, .int .i64 h] 42)).cell? ⟨w.heap.size, 2, none⟩ = some (.int .i64 h) := by go_simp
    generalize w.alloc (.cells #[.int .i64 c, .int .i64 s, .int .i64 h] 42) = w1 at hB0 c0 c1 c2 ⊢
    have q0 : ∀ w : World, Calls Try.prog 91 #[.int .i64 h, .int .i64 1, .int .i64 1000] w fun en w9 => en = .returned (.bool true) ∧ w9 = w := fun w => (l01In_any h 1 1000 w).mono fun _ _ q => ⟨by rw [q.1, h1], q.2.symm⟩
    have q1 : ∀ w : World, Calls Try.prog 91 #[.int .i64 c, .int .i64 1, .int .i64 h] w fun en w9 => en = .returned (.bool true) ∧ w9 = w := fun w => (l01In_any c 1 h w).mono fun _ _ q => ⟨by rw [q.1, h2], q.2.symm⟩
    have q2 : ∀ w : World, Calls Try.prog 91 #[.int .i64 s, .int .i64 (-h), .int .i64 h] w fun en w9 => en = .returned (.bool true) ∧ w9 = w := fun w => (l01In_any s (-h) h w).mono fun _ _ q => ⟨by rw [q.1, h3], q.2.symm⟩
    go_quiet (first | (go_at_call 91; with_reducible exact Calls.quiet_of_same (q0 _)) | (go_at_call 91; with_reducible exact Calls.quiet_of_same (q1 _)) | (go_at_call 91; with_reducible exact Calls.quiet_of_same (q2 _)))
    go_wp2
    go_ret
    exact ⟨by rw [HV.out]; rfl, below_drewN hB0 _⟩
  have m1 := bd_mul (a := c) (b := c) (A := 1000) (B := 1000) (by omega) (by omega)
  have m2 := bd_mul (a := s) (b := s) (A := 1000) (B := 1000) (by omega) (by omega)
  have m3 := bd_mul (a := h) (b := h) (A := 1000) (B := 1000) (by omega) (by omega)
  have e1 : IntKind.i64.wrap (c * c) = c * c := IntWalk.i64_in _ (by omega)
  have e2 : IntKind.i64.wrap (s * s) = s * s := IntWalk.i64_in _ (by omega)
  have e3 : IntKind.i64.wrap (h * h) = h * h := IntWalk.i64_in _ (by omega)
  have e4 : IntKind.i64.wrap (c * c + s * s) = c * c + s * s := IntWalk.i64_in _ (by omega)
  have m4 := gcd_bd c s (by omega)
  rcases Bool.eq_false_or_eq_true (c * c + s * s == h * h) with h5 | h5
  rotate_left
  · have HV : Hid (isDir c s h = false) := by show _ = _; simp [isDir, h5]
    go_enter Try.func78, Try.ntmps78
    go_wp2_with fail
    have hB0 : Below w.heap.size w (w.alloc (.cells #[.int .i64 c, .int .i64 s, .int .i64 h] 42)) := by go_grown
    have c0 : (w.alloc (.cells #[.int .i64 c, .int .i64 s, .int .i64 h] 42)).cell? ⟨w.heap.size, 0, none⟩ = some (.int .i64 c) := by go_simp
    have c1 : (w.alloc (.cells #[.int .i64 c, .int .i64 s, .int .i64 h] 42)).cell? ⟨w.heap.size, 1, none⟩ = some (.int .i64 s) := by go_simp
    have c2 : (w.alloc (.cells #[.int .i64 c, .int .i64 s, .int .i64 h] 42)).cell? ⟨w.heap.size, 2, none⟩ = some (.int .i64 h) := by go_simp
    generalize w.alloc (.cells #[.int .i64 c, .int .i64 s, .int .i64 h] 42) = w1 at hB0 c0 c1 c2 ⊢
    have q0 : ∀ w : World, Calls Try.prog 91 #[.int .i64 h, .int .i64 1, .int .i64 1000] w fun en w9 => en = .returned (.bool true) ∧ w9 = w := fun w => (l01In_any h 1 1000 w).mono fun _ _ q => ⟨by rw [q.1, h1], q.2.symm⟩
    have q1 : ∀ w : World, Calls Try.prog 91 #[.int .i64 c, .int .i64 1, .int .i64 h] w fun en w9 => en = .returned (.bool true) ∧ w9 = w := fun w => (l01In_any c 1 h w).mono fun _ _ q => ⟨by rw [q.1, h2], q.2.symm⟩
    have q2 : ∀ w : World, Calls Try.prog 91 #[.int .i64 s, .int .i64 (-h), .int .i64 h] w fun en w9 => en = .returned (.bool true) ∧ w9 = w := fun w => (l01In_any s (-h) h w).mono fun _ _ q => ⟨by rw [q.1, h3], q.2.symm⟩
    go_quiet (first | (go_at_call 91; with_reducible exact Calls.quiet_of_same (q0 _)) | (go_at_call 91; with_reducible exact Calls.quiet_of_same (q1 _)) | (go_at_call 91; with_reducible exact Calls.quiet_of_same (q2 _)))
    go_wp2
    go_ret
    exact ⟨by rw [HV.out]; rfl, below_drewN hB0 _⟩
  have HV : Hid (isDir c s h = (((Int.gcd ((Int.gcd c s : Nat) : Int) h : Nat) : Int) == 1)) := by
    show _ = _; rw [gcd_one]; unfold isDir; rw [h1, HH2.out, HH3.out, h4, h5]; rfl
  go_enter Try.func78, Try.ntmps78
  go_wp2_with fail
  have hB0 : Below w.heap.size w (w.alloc (.cells #[.int .i64 c, .int .i64 s, .int .i64 h] 42)) := by go_grown
  have c0 : (w.alloc (.cells #[.int .i64 c, .int .i64 s, .int .i64 h] 42)).cell? ⟨w.heap.size, 0, none⟩ = some (.int .i64 c) := by go_simp
  have c1 : (w.alloc (.cells #[.int .i64 c, .int .i64 s, .int .i64 h] 42)).cell? ⟨w.heap.size, 1, none⟩ = some (.int .i64 s) := by go_simp
  have c2 : (w.alloc (.cells #[.int .i64 c, .int .i64 s, .int .i64 h] 42)).cell? ⟨w.heap.size, 2, none⟩ = some (.int .i64 h) := by go_simp
  generalize w.alloc (.cells #[.int .i64 c, .int .i64 s, .int .i64 h] 42) = w1 at hB0 c0 c1 c2 ⊢
  have q0 : ∀ w : World, Calls Try.prog 91 #[.int .i64 h, .int .i64 1, .int .i64 1000] w fun en w9 => en = .returned (.bool true) ∧ w9 = w := fun w => (l01In_any h 1 1000 w).mono fun _ _ q => ⟨by rw [q.1, h1], q.2.symm⟩
  have q1 : ∀ w : World, Calls Try.prog 91 #[.int .i64 c, .int .i64 1, .int .i64 h] w fun en w9 => en = .returned (.bool true) ∧ w9 = w := fun w => (l01In_any c 1 h w).mono fun _ _ q => ⟨by rw [q.1, h2], q.2.symm⟩
  have q2 : ∀ w : World, Calls Try.prog 91 #[.int .i64 s, .int .i64 (-h), .int .i64 h] w fun en w9 => en = .returned (.bool true) ∧ w9 = w := fun w => (l01In_any s (-h) h w).mono fun _ _ q => ⟨by rw [q.1, h3], q.2.symm⟩
  have q5 : ∀ w : World, Calls Try.prog 98 #[.int .i64 c, .int .i64 s] w fun en w9 => en = .returned (.int .i64 (Int.gcd c s)) ∧ ∃ m, w9 = w.drewN m := fun w => sGcd_any c s w (by omega) (by omega)
  have q6 : ∀ w : World, Calls Try.prog 98 #[.int .i64 (Int.gcd c s), .int .i64 h] w fun en w9 => en = .returned (.int .i64 (Int.gcd ((Int.gcd c s : Nat) : Int) h)) ∧ ∃ m, w9 = w.drewN m := fun w => sGcd_any _ h w (by omega) (by omega)
  go_quiet (first | (go_at_call 91; with_reducible exact Calls.quiet_of_same (q0 _)) | (go_at_call 91; with_reducible exact Calls.quiet_of_same (q1 _)) | (go_at_call 91; with_reducible exact Calls.quiet_of_same (q2 _)) | (go_at_call 98; with_reducible exact Calls.quiet_of (q5 _)) | (go_at_call 98; with_reducible exact Calls.quiet_of (q6 _)))
  go_wp2
  go_ret
  exact ⟨by rw [HV.out]; rfl, below_drewN hB0 _⟩
end Go.Proofs.Ytfmhbphbgdijpaa
