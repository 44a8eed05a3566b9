/- walks: waves -/
import Derived.Test.YtfmhbphbgdijpaaW10
set_option linter.unusedVariables false
set_option linter.unusedSimpArgs false
namespace Go.Proofs.Ytfmhbphbgdijpaa
open Go.RowKit
set_option maxHeartbeats 1000000 in
/-- the Go function impl.isWave -/
theorem iWave_any (r v : Int) (w : World) :
    Calls Try.prog 75 #[.int .i64 r, .int .i64 v] w fun en w9 => en = .returned (.bool (okWave r v)) ∧ w = w9 := by
  rcases Bool.eq_false_or_eq_true (inR r 1 100000) with h1 | h1
  all_goals (go_enter Try.func75, Try.ntmps75; go_wp2_with (first | (go_at_call 54; refine (within_any _ _ _ _).mono ?_; rintro en w1 ⟨rfl, rfl⟩)); go_ret; exact ⟨by simp [okWave, h1], rfl⟩)
set_option maxHeartbeats 1000000 in
/-- the Go function spec.l11Times -/
theorem sWave_any (r v : Int) (w : World) :
    Calls Try.prog 79 #[.int .i64 r, .int .i64 v] w fun en w9 => en = .returned (.bool (okWave r v)) ∧ w = w9 := by
  rcases Bool.eq_false_or_eq_true (inR r 1 100000) with h1 | h1
  all_goals (go_enter Try.func79, Try.ntmps79; go_wp2_with (first | (go_at_call 91; refine (l01In_any _ _ _ _).mono ?_; rintro en w1 ⟨rfl, rfl⟩)); go_ret; exact ⟨by simp [okWave, h1], rfl⟩)

set_option maxHeartbeats 2000000 in
theorem iWc_any (A : Option Addr) (n c : Nat) (xs : List Int) (cc s h r v : Int) (w : World) (hn : xs.length = n) (hnc : n ≤ c) (hm : n ≤ 1048576) (hr : Rd w A xs) :
    Calls Try.prog 84 #[.slice A n c, .agg #[.int .i64 cc, .int .i64 s, .int .i64 h], .int .i64 r, .int .i64 v] w fun en w9 => en = .returned (.int .i64 (wvCode xs cc s h r v)) ∧ Below w.heap.size w w9 := by
  go_enter Try.func84, Try.ntmps84
  go_wp2_with fail
  have hB0 : Below w.heap.size w (w.alloc (.cells #[.int .i64 cc, .int .i64 s, .int .i64 h] 42)) := by go_grown
  have c0 : (w.alloc (.cells #[.int .i64 cc, .int .i64 s, .int .i64 h] 42)).cell? ⟨w.heap.size, 0, none⟩ = some (.int .i64 cc) := by go_simp
  have c1 : (w.alloc (.cells #[.int .i64 cc, .int .i64 s, .int .i64 h] 42)).cell? ⟨w.heap.size, 1, none⟩ = some (.int .i64 s) := by go_simp
  have c2 : (w.alloc (.cells #[.int .i64 cc, .int .i64 s, .int .i64 h] 42)).cell? ⟨w.heap.size, 2, none⟩ = some (.int .i64 h) := by go_simp
  generalize w.alloc (.cells #[.int .i64 cc, .int .i64 s, .int .i64 h] 42) = w1 at hB0 c0 c1 c2 ⊢
  go_wp2_with fail
  refine (iArr_any A n c xs _ hn hnc (by omega) (hr.below hB0)).mono ?_
  rintro en w2 ⟨rfl, mq, hq⟩
  have hbq := bquiet hq
  have hB2 := bseq hB0 hbq
  have c3 := later hbq c0
  have c4 := later hbq c1
  have c5 := later hbq c2
  clear hq
  rcases Bool.eq_false_or_eq_true (isArr xs) with g1 | g1
  rotate_left
  · have HV : Hid (wvCode xs cc s h r v = 1) := (by show _ = _; simp [wvCode, g1])
    go_wp2
    go_ret
    exact ⟨by rw [HV.out]; rfl, hB2⟩
  go_wp2_with fail
  refine (iDir_any cc s h _).mono ?_
  rintro en w3 ⟨rfl, hb3⟩
  have hB3 := bseq hB2 hb3
  rcases Bool.eq_false_or_eq_true (isDir cc s h) with g2 | g2
  rotate_left
  · have HV : Hid (wvCode xs cc s h r v = 1) := (by show _ = _; simp [wvCode, g1, g2])
    go_wp2
    go_ret
    exact ⟨by rw [HV.out]; rfl, hB3⟩
  rcases Bool.eq_false_or_eq_true (okWave r v) with g3 | g3
  · have HV : Hid (wvCode xs cc s h r v = 0) := (by show _ = _; simp [wvCode, g1, g2, g3])
    go_wp2_with (first | (go_at_call 75; refine (iWave_any _ _ _).mono ?_; rintro en w1 ⟨rfl, rfl⟩))
    go_ret
    exact ⟨by rw [HV.out]; rfl, hB3⟩
  · have HV : Hid (wvCode xs cc s h r v = 2) := (by show _ = _; simp [wvCode, g1, g2, g3])
    go_wp2_with (first | (go_at_call 75; refine (iWave_any _ _ _).mono ?_; rintro en w1 ⟨rfl, rfl⟩))
    go_ret
    exact ⟨by rw [HV.out]; rfl, hB3⟩

set_option maxHeartbeats 2000000 in
theorem sWc_any (A : Option Addr) (n c : Nat) (xs : List Int) (cc s h r v : Int) (w : World) (hn : xs.length = n) (hnc : n ≤ c) (hm : n ≤ 1048576) (hr : Rd w A xs) :
    Calls Try.prog 86 #[.slice A n c, .agg #[.int .i64 cc, .int .i64 s, .int .i64 h], .int .i64 r, .int .i64 v] w fun en w9 => en = .returned (.int .i64 (wvCode xs cc s h r v)) ∧ Below w.heap.size w w9 := by
  go_enter Try.func86, Try.ntmps86
  go_wp2_with fail
  have hB0 : Below w.heap.size w (w.alloc (.cells #[.int .i64 cc, .int .i64 s, .int .i64 h] 42)) := by go_grown
  have c0 : (w.alloc (.cells #[.int .i64 cc, .int .i64 s, .int .i64 h] 42)).cell? ⟨w.heap.size, 0, none⟩ = some (.int .i64 cc) := by go_simp
  have c1 : (w.alloc (.cells #[.int .i64 cc, .int .i64 s, .int .i64 h] 42)).cell? ⟨w.heap.size, 1, none⟩ = some (.int .i64 s) := by go_simp
  have c2 : (w.alloc (.cells #[.int .i64 cc, .int .i64 s, .int .i64 h] 42)).cell? ⟨w.heap.size, 2, none⟩ = some (.int .i64 h) := by go_simp
  generalize w.alloc (.cells #[.int .i64 cc, .int .i64 s, .int .i64 h] 42) = w1 at hB0 c0 c1 c2 ⊢
  go_wp2_with fail
  refine (sArr_any A n c xs _ hn hnc (by omega) (hr.below hB0)).mono ?_
  rintro en w2 ⟨rfl, mq, hq⟩
  have hbq := bquiet hq
  have hB2 := bseq hB0 hbq
  have c3 := later hbq c0
  have c4 := later hbq c1
  have c5 := later hbq c2
  clear hq
  rcases Bool.eq_false_or_eq_true (isArr xs) with g1 | g1
  rotate_left
  · have HV : Hid (wvCode xs cc s h r v = 1) := (by show _ = _; simp [wvCode, g1])
    go_wp2
    go_ret
    exact ⟨by rw [HV.out]; rfl, hB2⟩
  go_wp2_with fail
  refine (sDir_any cc s h _).mono ?_
  rintro en w3 ⟨rfl, hb3⟩
  have hB3 := bseq hB2 hb3
  rcases Bool.eq_false_or_eq_true (isDir cc s h) with g2 | g2
  rotate_left
  · have HV : Hid (wvCode xs cc s h r v = 1) := (by show _ = _; simp [wvCode, g1, g2])
    go_wp2
    go_ret
    exact ⟨by rw [HV.out]; rfl, hB3⟩
  rcases Bool.eq_false_or_eq_true (okWave r v) with g3 | g3
  · have HV : Hid (wvCode xs cc s h r v = 0) := (by show _ = _; simp [wvCode, g1, g2, g3])
    go_wp2_with (first | (go_at_call 79; refine (sWave_any _ _ _).mono ?_; rintro en w1 ⟨rfl, rfl⟩))
    go_ret
    exact ⟨by rw [HV.out]; rfl, hB3⟩
  · have HV : Hid (wvCode xs cc s h r v = 2) := (by show _ = _; simp [wvCode, g1, g2, g3])
    go_wp2_with (first | (go_at_call 79; refine (sWave_any _ _ _).mono ?_; rintro en w1 ⟨rfl, rfl⟩))
    go_ret
    exact ⟨by rw [HV.out]; rfl, hB3⟩
set_option maxHeartbeats 1000000 in
/-- the Go function laws.toDirection -/
theorem toDir_any (x y z : Int) (w : World) :
    Calls Try.prog 39 #[.agg #[.int .i64 x, .int .i64 y, .int .i64 z]] w fun en w9 => en = .returned (.agg #[.int .i64 x, .int .i64 y, .int .i64 z]) ∧ Below w.heap.size w w9 := by
  go_enter Try.func39, Try.ntmps39
  go_wp2
  go_returns
  exact ⟨rfl, by go_grown⟩
set_option maxHeartbeats 1000000 in
/-- the Go function impl.newWave -/
theorem newW_any (c s h r v : Int) (w : World) (hr : 1 ≤ r ∧ r ≤ 100000) (hs : -1000 ≤ s ∧ s ≤ 1000) (hh : 1 ≤ h ∧ h ≤ 1000) (hv : 1300000 ≤ v ∧ v ≤ 1700000) :
    Calls Try.prog 76 #[.agg #[.int .i64 c, .int .i64 s, .int .i64 h], .int .i64 r, .int .i64 v] w fun en w9 => en = .returned (.agg #[.int .i64 (10 * r * s), .int .i64 (h * v)]) ∧ Below w.heap.size w w9 := by
  go_enter Try.func76, Try.ntmps76
  have m1 := num_bd hr hs
  have m2 := den_bd hh hv
  go_wp2
  go_returns
  exact ⟨rfl, by go_grown⟩
end Go.Proofs.Ytfmhbphbgdijpaa
