/- walks: ratios -/
import Derived.Test.YtoccglmlpobeeaaPlainR
import Derived.Test.YtoccglmlpobeeaaW5
set_option linter.unusedVariables false
set_option linter.unusedSimpArgs false
namespace Go.Proofs.Ytoccglmlpobeeaa
open Go.RowKit

set_option maxHeartbeats 2000000 in
theorem iRat_any (a b : Int) (w : World) (ha : -1000000000000000000 ≤ a ∧ a ≤ 1000000000000000000) (hb : -1000000000000000000 ≤ b ∧ b ≤ 1000000000000000000) :
    Calls Try.prog 116 #[.agg #[.int .i64 a, .int .i64 b]] w fun en w9 => en = .returned (.bool (isRat a b)) ∧ Below w.heap.size w w9 := by
  have HV : Hid (isRat a b = (inR a (-1000000000) 1000000000 && inR b 1 1000000000 && (((Int.gcd a b : Nat) : Int) == 1))) := rfl
  rcases Bool.eq_false_or_eq_true (inR a (-1000000000) 1000000000) with h1 | h1
  · rcases Bool.eq_false_or_eq_true (inR b 1 1000000000) with h2 | h2
    all_goals (go_enter Try.func116, Try.ntmps116; go_wp2_with (first | (go_at_call 76; refine (within_any _ _ _ _).mono ?_; rintro en w1 ⟨rfl, rfl⟩) | (go_at_call 115; refine (iGcd_any _ _ _ (by omega) (by omega)).mono ?_; rintro en w1 ⟨rfl, mq, rfl⟩)); go_ret; exact ⟨by rw [HV.out, h1, h2]; rfl, by first | (go_grown; done) | exact below_drewN (by go_grown) _⟩)
  · go_enter Try.func116, Try.ntmps116
    go_wp2_with (first | (go_at_call 76; refine (within_any _ _ _ _).mono ?_; rintro en w1 ⟨rfl, rfl⟩) | (go_at_call 115; refine (iGcd_any _ _ _ (by omega) (by omega)).mono ?_; rintro en w1 ⟨rfl, mq, rfl⟩))
    go_ret
    exact ⟨by rw [HV.out, h1]; rfl, by go_grown⟩

set_option maxHeartbeats 2000000 in
theorem sRat_any (a b : Int) (w : World) (ha : -1000000000000000000 ≤ a ∧ a ≤ 1000000000000000000) (hb : -1000000000000000000 ≤ b ∧ b ≤ 1000000000000000000) :
    Calls Try.prog 119 #[.agg #[.int .i64 a, .int .i64 b]] w fun en w9 => en = .returned (.bool (isRat a b)) ∧ Below w.heap.size w w9 := by
  have HV : Hid (isRat a b = (inR a (-1000000000) 1000000000 && inR b 1 1000000000 && (((Int.gcd a b : Nat) : Int) == 1))) := rfl
  rcases Bool.eq_false_or_eq_true (inR a (-1000000000) 1000000000) with h1 | h1
  · rcases Bool.eq_false_or_eq_true (inR b 1 1000000000) with h2 | h2
    all_goals (go_enter Try.func119, Try.ntmps119; go_wp2_with (first | (go_at_call 74; refine (l01In_any _ _ _ _).mono ?_; rintro en w1 ⟨rfl, rfl⟩) | (go_at_call 118; refine (sGcd_any _ _ _ (by omega) (by omega)).mono ?_; rintro en w1 ⟨rfl, mq, rfl⟩)); go_ret; exact ⟨by rw [HV.out, h1, h2]; rfl, by first | (go_grown; done) | exact below_drewN (by go_grown) _⟩)
  · go_enter Try.func119, Try.ntmps119
    go_wp2_with (first | (go_at_call 74; refine (l01In_any _ _ _ _).mono ?_; rintro en w1 ⟨rfl, rfl⟩) | (go_at_call 118; refine (sGcd_any _ _ _ (by omega) (by omega)).mono ?_; rintro en w1 ⟨rfl, mq, rfl⟩))
    go_ret
    exact ⟨by rw [HV.out, h1]; rfl, by go_grown⟩

set_option maxHeartbeats 4000000 in
theorem iRatio_any (n d e : Int) (w : World) (hn : -1000000000000000000 ≤ n ∧ n ≤ 1000000000000000000) (hd : -1000000000000000000 ≤ d ∧ d ≤ 1000000000000000000) (hz : d ≠ 0) :
    Calls Try.prog 103 #[.int .i64 n, .int .i64 d, .int .i64 e] w fun en w9 => en = .returned (.tuple #[.agg #[.int .i64 (ratX n d), .int .i64 (ratY n d)], .int .i64 (ratC n d e)]) ∧ Below w.heap.size w w9 := by
  rcases Int.lt_or_le d 0 with h1 | h1
  · obtain ⟨m, rfl⟩ : ∃ m, n = -m := ⟨-n, by omega⟩
    obtain ⟨k, rfl⟩ : ∃ k, d = -k := ⟨-d, by omega⟩
    have HN : ratN (-m) (-k) = m ∧ ratD (-k) = k := by unfold ratN ratD; constructor <;> rw [if_pos h1, Int.neg_neg]
    have g0 := gcdI_pos (n := m) (d := k) (by omega)
    have g1 := gcdI_le (n := m) (d := k) (by omega)
    have HA : ratA (-m) (-k) = Int.tdiv m (gcdI m k) := by unfold ratA; rw [HN.1, HN.2]
    have HB : ratB (-m) (-k) = Int.tdiv k (gcdI m k) := by unfold ratB; rw [HN.1, HN.2]
    obtain ⟨g, hg⟩ : ∃ g, g = gcdI m k := ⟨_, rfl⟩
    rw [← hg] at g0 g1 HA HB
    have HG : Hid (g = ((Int.gcd m k : Nat) : Int)) := hg
    clear hg HN
    have g2 : g ≤ 1000000000000000000 := by unfold iabs at g1; omega
    clear g1
    have q1 := tdiv_bd (a := m) (b := g) (M := 1000000000000000000) (by omega)
    have q2 := tdiv_bd (a := k) (b := g) (M := 1000000000000000000) (by omega)
    have gz : (g == 0) = false := by simp; omega
    have gz2 : ¬ g = 0 := by omega
    rcases Bool.eq_false_or_eq_true (isRat (Int.tdiv m g) (Int.tdiv k g)) with h3 | h3
    · have HV : Hid (ratX (-m) (-k) = Int.tdiv m g ∧ ratY (-m) (-k) = Int.tdiv k g ∧ ratC (-m) (-k) e = 0) := by
        have : ratOk (-m) (-k) = true := by unfold ratOk; rw [HA, HB]; exact h3
        show _ ∧ _ ∧ _; unfold ratX ratY ratC; rw [this, HA, HB]; exact ⟨rfl, rfl, rfl⟩
      clear HA HB
      go_enter Try.func103, Try.ntmps103
      go_wp2_with fail
      refine (iGcd_any _ _ _ (by omega) (by omega)).mono ?_
      rintro en wz ⟨rfl, mq, rfl⟩
      rw [← HG.out]
      go_wp2
      go_region
      go_wp2_with fail
      refine (iRat_any _ _ _ (by omega) (by omega)).mono ?_
      rintro en w1 ⟨rfl, hb1⟩
      have hB1 : Below w.heap.size w w1 := by first | exact hb1 | exact Below.trans (by repeat (first | exact Below.refl _ _ | refine Below.drew ?_ | refine below_drewN ?_ _ | refine Below.alloc ?_ (by (try simp only [World.size_alloc, World.size_drew, size_drewN, World.size_setCell]); omega) _ | refine Below.setCell ?_ (by (try dsimp only); omega) _)) (hb1.mono (by (try simp only [World.size_alloc, World.size_drew, size_drewN, World.size_setCell]); omega))
      have f1 : w1.cell? ⟨w.heap.size, 0, none⟩ = some (.int .i64 0) := (hb1.cell (p := ⟨w.heap.size, 0, none⟩) (by first | (go_size; done) | (simp; done) | (simp <;> omega))).trans (by go_simp)
      have z1 : w1.frozen? ⟨w.heap.size, 0, none⟩ = false := (hb1.frozen (p := ⟨w.heap.size, 0, none⟩) (by first | (go_size; done) | (simp; done) | (simp <;> omega))).trans (by go_simp)
      have f2 : w1.cell? ⟨w.heap.size, 1, none⟩ = some (.int .i64 0) := (hb1.cell (p := ⟨w.heap.size, 1, none⟩) (by first | (go_size; done) | (simp; done) | (simp <;> omega))).trans (by go_simp)
      have z2 : w1.frozen? ⟨w.heap.size, 1, none⟩ = false := (hb1.frozen (p := ⟨w.heap.size, 1, none⟩) (by first | (go_size; done) | (simp; done) | (simp <;> omega))).trans (by go_simp)
      have f3 : w1.cell? ⟨w.heap.size + 1, 0, none⟩ = some (.int .i64 (Int.tdiv m g)) := (hb1.cell (p := ⟨w.heap.size + 1, 0, none⟩) (by first | (go_size; done) | (simp; done) | (simp <;> omega))).trans (by go_simp)
      have f4 : w1.cell? ⟨w.heap.size + 1, 1, none⟩ = some (.int .i64 (Int.tdiv k g)) := (hb1.cell (p := ⟨w.heap.size + 1, 1, none⟩) (by first | (go_size; done) | (simp; done) | (simp <;> omega))).trans (by go_simp)
      have l5 : w.heap.size < w1.heap.size := World.block_lt_of_cell? _ _ f1
      have l6 : w.heap.size + 1 < w1.heap.size := World.block_lt_of_cell? _ _ f3
      have hZ1 := hB1.size
      go_wp2
      refine bodyPost_ret (v := .tuple #[.agg #[.int .i64 (ratX (-m) (-k)), .int .i64 (ratY (-m) (-k))], .int .i64 (ratC (-m) (-k) e)]) (by rw [HV.out.1, HV.out.2.1, HV.out.2.2]; simp [results, Try.results103, go_sem, f1, f2, f3, f4, z1, z2, l5, Nat.ne_of_lt l5, l6, Nat.ne_of_lt l6]) rfl ⟨rfl, by have hx := hB1; first | (go_grown; done) | exact below_drewN (by go_grown) _⟩
    · have HV : Hid (ratX (-m) (-k) = 0 ∧ ratY (-m) (-k) = 0 ∧ ratC (-m) (-k) e = e) := by
        have : ratOk (-m) (-k) = false := by unfold ratOk; rw [HA, HB]; exact h3
        show _ ∧ _ ∧ _; unfold ratX ratY ratC; rw [this]; exact ⟨rfl, rfl, rfl⟩
      clear HA HB
      go_enter Try.func103, Try.ntmps103
      go_wp2_with fail
      refine (iGcd_any _ _ _ (by omega) (by omega)).mono ?_
      rintro en wz ⟨rfl, mq, rfl⟩
      rw [← HG.out]
      go_wp2
      go_region
      go_wp2_with fail
      refine (iRat_any _ _ _ (by omega) (by omega)).mono ?_
      rintro en w1 ⟨rfl, hb1⟩
      have hB1 : Below w.heap.size w w1 := by first | exact hb1 | exact Below.trans (by repeat (first | exact Below.refl _ _ | refine Below.drew ?_ | refine below_drewN ?_ _ | refine Below.alloc ?_ (by (try simp only [World.size_alloc, World.size_drew, size_drewN, World.size_setCell]); omega) _ | refine Below.setCell ?_ (by (try dsimp only); omega) _)) (hb1.mono (by (try simp only [World.size_alloc, World.size_drew, size_drewN, World.size_setCell]); omega))
      have f1 : w1.cell? ⟨w.heap.size, 0, none⟩ = some (.int .i64 0) := (hb1.cell (p := ⟨w.heap.size, 0, none⟩) (by first | (go_size; done) | (simp; done) | (simp <;> omega))).trans (by go_simp)
      have z1 : w1.frozen? ⟨w.heap.size, 0, none⟩ = false := (hb1.frozen (p := ⟨w.heap.size, 0, none⟩) (by first | (go_size; done) | (simp; done) | (simp <;> omega))).trans (by go_simp)
      have f2 : w1.cell? ⟨w.heap.size, 1, none⟩ = some (.int .i64 0) := (hb1.cell (p := ⟨w.heap.size, 1, none⟩) (by first | (go_size; done) | (simp; done) | (simp <;> omega))).trans (by go_simp)
      have z2 : w1.frozen? ⟨w.heap.size, 1, none⟩ = false := (hb1.frozen (p := ⟨w.heap.size, 1, none⟩) (by first | (go_size; done) | (simp; done) | (simp <;> omega))).trans (by go_simp)
      have f3 : w1.cell? ⟨w.heap.size + 1, 0, none⟩ = some (.int .i64 (Int.tdiv m g)) := (hb1.cell (p := ⟨w.heap.size + 1, 0, none⟩) (by first | (go_size; done) | (simp; done) | (simp <;> omega))).trans (by go_simp)
      have f4 : w1.cell? ⟨w.heap.size + 1, 1, none⟩ = some (.int .i64 (Int.tdiv k g)) := (hb1.cell (p := ⟨w.heap.size + 1, 1, none⟩) (by first | (go_size; done) | (simp; done) | (simp <;> omega))).trans (by go_simp)
      have l5 : w.heap.size < w1.heap.size := World.block_lt_of_cell? _ _ f1
      have l6 : w.heap.size + 1 < w1.heap.size := World.block_lt_of_cell? _ _ f3
      have hZ1 := hB1.size
      go_wp2
      refine bodyPost_ret (v := .tuple #[.agg #[.int .i64 (ratX (-m) (-k)), .int .i64 (ratY (-m) (-k))], .int .i64 (ratC (-m) (-k) e)]) (by rw [HV.out.1, HV.out.2.1, HV.out.2.2]; simp [results, Try.results103, go_sem, f1, f2, f3, f4, z1, z2, l5, Nat.ne_of_lt l5, l6, Nat.ne_of_lt l6]) rfl ⟨rfl, by have hx := hB1; first | (go_grown; done) | exact below_drewN (by go_grown) _⟩
  · have h2 : ¬ d < 0 := by omega
    have HN : ratN n d = n ∧ ratD d = d := by unfold ratN ratD; constructor <;> rw [if_neg (by omega)]
    have g0 := gcdI_pos (n := n) (d := d) (by omega)
    have g1 := gcdI_le (n := n) (d := d) (by omega)
    have HA : ratA n d = Int.tdiv n (gcdI n d) := by unfold ratA; rw [HN.1, HN.2]
    have HB : ratB n d = Int.tdiv d (gcdI n d) := by unfold ratB; rw [HN.1, HN.2]
    obtain ⟨g, hg⟩ : ∃ g, g = gcdI n d := ⟨_, rfl⟩
    rw [← hg] at g0 g1 HA HB
    have HG : Hid (g = ((Int.gcd n d : Nat) : Int)) := hg
    clear hg HN
    have g2 : g ≤ 1000000000000000000 := by unfold iabs at g1; omega
    clear g1
    have q1 := tdiv_bd (a := n) (b := g) (M := 1000000000000000000) (by omega)
    have q2 := tdiv_bd (a := d) (b := g) (M := 1000000000000000000) (by omega)
    have gz : (g == 0) = false := by simp; omega
    have gz2 : ¬ g = 0 := by omega
    rcases Bool.eq_false_or_eq_true (isRat (Int.tdiv n g) (Int.tdiv d g)) with h3 | h3
    · have HV : Hid (ratX n d = Int.tdiv n g ∧ ratY n d = Int.tdiv d g ∧ ratC n d e = 0) := by
        have : ratOk n d = true := by unfold ratOk; rw [HA, HB]; exact h3
        show _ ∧ _ ∧ _; unfold ratX ratY ratC; rw [this, HA, HB]; exact ⟨rfl, rfl, rfl⟩
      clear HA HB
      go_enter Try.func103, Try.ntmps103
      go_wp2_with fail
      refine (iGcd_any _ _ _ (by omega) (by omega)).mono ?_
      rintro en wz ⟨rfl, mq, rfl⟩
      rw [← HG.out]
      go_wp2
      go_region
      go_wp2_with fail
      refine (iRat_any _ _ _ (by omega) (by omega)).mono ?_
      rintro en w1 ⟨rfl, hb1⟩
      have hB1 : Below w.heap.size w w1 := by first | exact hb1 | exact Below.trans (by repeat (first | exact Below.refl _ _ | refine Below.drew ?_ | refine below_drewN ?_ _ | refine Below.alloc ?_ (by (try simp only [World.size_alloc, World.size_drew, size_drewN, World.size_setCell]); omega) _ | refine Below.setCell ?_ (by (try dsimp only); omega) _)) (hb1.mono (by (try simp only [World.size_alloc, World.size_drew, size_drewN, World.size_setCell]); omega))
      have f1 : w1.cell? ⟨w.heap.size, 0, none⟩ = some (.int .i64 0) := (hb1.cell (p := ⟨w.heap.size, 0, none⟩) (by first | (go_size; done) | (simp; done) | (simp <;> omega))).trans (by go_simp)
      have z1 : w1.frozen? ⟨w.heap.size, 0, none⟩ = false := (hb1.frozen (p := ⟨w.heap.size, 0, none⟩) (by first | (go_size; done) | (simp; done) | (simp <;> omega))).trans (by go_simp)
      have f2 : w1.cell? ⟨w.heap.size, 1, none⟩ = some (.int .i64 0) := (hb1.cell (p := ⟨w.heap.size, 1, none⟩) (by first | (go_size; done) | (simp; done) | (simp <;> omega))).trans (by go_simp)
      have z2 : w1.frozen? ⟨w.heap.size, 1, none⟩ = false := (hb1.frozen (p := ⟨w.heap.size, 1, none⟩) (by first | (go_size; done) | (simp; done) | (simp <;> omega))).trans (by go_simp)
      have f3 : w1.cell? ⟨w.heap.size + 1, 0, none⟩ = some (.int .i64 (Int.tdiv n g)) := (hb1.cell (p := ⟨w.heap.size + 1, 0, none⟩) (by first | (go_size; done) | (simp; done) | (simp <;> omega))).trans (by go_simp)
      have f4 : w1.cell? ⟨w.heap.size + 1, 1, none⟩ = some (.int .i64 (Int.tdiv d g)) := (hb1.cell (p := ⟨w.heap.size + 1, 1, none⟩) (by first | (go_size; done) | (simp; done) | (simp <;> omega))).trans (by go_simp)
      have l5 : w.heap.size < w1.heap.size := World.block_lt_of_cell? _ _ f1
      have l6 : w.heap.size + 1 < w1.heap.size := World.block_lt_of_cell? _ _ f3
      have hZ1 := hB1.size
      go_wp2
      refine bodyPost_ret (v := .tuple #[.agg #[.int .i64 (ratX n d), .int .i64 (ratY n d)], .int .i64 (ratC n d e)]) (by rw [HV.out.1, HV.out.2.1, HV.out.2.2]; simp [results, Try.results103, go_sem, f1, f2, f3, f4, z1, z2, l5, Nat.ne_of_lt l5, l6, Nat.ne_of_lt l6]) rfl ⟨rfl, by have hx := hB1; first | (go_grown; done) | exact below_drewN (by go_grown) _⟩
    · have HV : Hid (ratX n d = 0 ∧ ratY n d = 0 ∧ ratC n d e = e) := by
        have : ratOk n d = false := by unfold ratOk; rw [HA, HB]; exact h3
        show _ ∧ _ ∧ _; unfold ratX ratY ratC; rw [this]; exact ⟨rfl, rfl, rfl⟩
      clear HA HB
      go_enter Try.func103, Try.ntmps103
      go_wp2_with fail
      refine (iGcd_any _ _ _ (by omega) (by omega)).mono ?_
      rintro en wz ⟨rfl, mq, rfl⟩
      rw [← HG.out]
      go_wp2
      go_region
      go_wp2_with fail
      refine (iRat_any _ _ _ (by omega) (by omega)).mono ?_
      rintro en w1 ⟨rfl, hb1⟩
      have hB1 : Below w.heap.size w w1 := by first | exact hb1 | exact Below.trans (by repeat (first | exact Below.refl _ _ | refine Below.drew ?_ | refine below_drewN ?_ _ | refine Below.alloc ?_ (by (try simp only [World.size_alloc, World.size_drew, size_drewN, World.size_setCell]); omega) _ | refine Below.setCell ?_ (by (try dsimp only); omega) _)) (hb1.mono (by (try simp only [World.size_alloc, World.size_drew, size_drewN, World.size_setCell]); omega))
      have f1 : w1.cell? ⟨w.heap.size, 0, none⟩ = some (.int .i64 0) := (hb1.cell (p := ⟨w.heap.size, 0, none⟩) (by first | (go_size; done) | (simp; done) | (simp <;> omega))).trans (by go_simp)
      have z1 : w1.frozen? ⟨w.heap.size, 0, none⟩ = false := (hb1.frozen (p := ⟨w.heap.size, 0, none⟩) (by first | (go_size; done) | (simp; done) | (simp <;> omega))).trans (by go_simp)
      have f2 : w1.cell? ⟨w.heap.size, 1, none⟩ = some (.int .i64 0) := (hb1.cell (p := ⟨w.heap.size, 1, none⟩) (by first | (go_size; done) | (simp; done) | (simp <;> omega))).trans (by go_simp)
      have z2 : w1.frozen? ⟨w.heap.size, 1, none⟩ = false := (hb1.frozen (p := ⟨w.heap.size, 1, none⟩) (by first | (go_size; done) | (simp; done) | (simp <;> omega))).trans (by go_simp)
      have f3 : w1.cell? ⟨w.heap.size + 1, 0, none⟩ = some (.int .i64 (Int.tdiv n g)) := (hb1.cell (p := ⟨w.heap.size + 1, 0, none⟩) (by first | (go_size; done) | (simp; done) | (simp <;> omega))).trans (by go_simp)
      have f4 : w1.cell? ⟨w.heap.size + 1, 1, none⟩ = some (.int .i64 (Int.tdiv d g)) := (hb1.cell (p := ⟨w.heap.size + 1, 1, none⟩) (by first | (go_size; done) | (simp; done) | (simp <;> omega))).trans (by go_simp)
      have l5 : w.heap.size < w1.heap.size := World.block_lt_of_cell? _ _ f1
      have l6 : w.heap.size + 1 < w1.heap.size := World.block_lt_of_cell? _ _ f3
      have hZ1 := hB1.size
      go_wp2
      refine bodyPost_ret (v := .tuple #[.agg #[.int .i64 (ratX n d), .int .i64 (ratY n d)], .int .i64 (ratC n d e)]) (by rw [HV.out.1, HV.out.2.1, HV.out.2.2]; simp [results, Try.results103, go_sem, f1, f2, f3, f4, z1, z2, l5, Nat.ne_of_lt l5, l6, Nat.ne_of_lt l6]) rfl ⟨rfl, by have hx := hB1; first | (go_grown; done) | exact below_drewN (by go_grown) _⟩

set_option maxHeartbeats 4000000 in
theorem sMake_any (n d : Int) (w : World) (hn : -1000000000000000000 ≤ n ∧ n ≤ 1000000000000000000) (hd : -1000000000000000000 ≤ d ∧ d ≤ 1000000000000000000) (hz : d ≠ 0) :
    Calls Try.prog 114 #[.int .i64 n, .int .i64 d] w fun en w9 => en = .returned (.tuple #[.agg #[.int .i64 (ratX n d), .int .i64 (ratY n d)], .int .i64 (ratC n d 2)]) ∧ Below w.heap.size w w9 := by
  rcases Int.lt_or_le d 0 with h1 | h1
  · obtain ⟨m, rfl⟩ : ∃ m, n = -m := ⟨-n, by omega⟩
    obtain ⟨k, rfl⟩ : ∃ k, d = -k := ⟨-d, by omega⟩
    have HN : ratN (-m) (-k) = m ∧ ratD (-k) = k := by unfold ratN ratD; constructor <;> rw [if_pos h1, Int.neg_neg]
    have g0 := gcdI_pos (n := m) (d := k) (by omega)
    have g1 := gcdI_le (n := m) (d := k) (by omega)
    have HA : ratA (-m) (-k) = Int.tdiv m (gcdI m k) := by unfold ratA; rw [HN.1, HN.2]
    have HB : ratB (-m) (-k) = Int.tdiv k (gcdI m k) := by unfold ratB; rw [HN.1, HN.2]
    obtain ⟨g, hg⟩ : ∃ g, g = gcdI m k := ⟨_, rfl⟩
    rw [← hg] at g0 g1 HA HB
    have HG : Hid (g = ((Int.gcd m k : Nat) : Int)) := hg
    clear hg HN
    have g2 : g ≤ 1000000000000000000 := by unfold iabs at g1; omega
    clear g1
    have q1 := tdiv_bd (a := m) (b := g) (M := 1000000000000000000) (by omega)
    have q2 := tdiv_bd (a := k) (b := g) (M := 1000000000000000000) (by omega)
    have gz : (g == 0) = false := by simp; omega
    have gz2 : ¬ g = 0 := by omega
    rcases Bool.eq_false_or_eq_true (isRat (Int.tdiv m g) (Int.tdiv k g)) with h3 | h3
    · have HV : Hid (ratX (-m) (-k) = Int.tdiv m g ∧ ratY (-m) (-k) = Int.tdiv k g ∧ ratC (-m) (-k) 2 = 0) := by
        have : ratOk (-m) (-k) = true := by unfold ratOk; rw [HA, HB]; exact h3
        show _ ∧ _ ∧ _; unfold ratX ratY ratC; rw [this, HA, HB]; exact ⟨rfl, rfl, rfl⟩
      clear HA HB
      go_enter Try.func114, Try.ntmps114
      go_wp2_with fail
      refine (sGcd_any _ _ _ (by omega) (by omega)).mono ?_
      rintro en wz ⟨rfl, mq, rfl⟩
      rw [← HG.out]
      go_wp2
      go_region
      go_wp2_with fail
      refine (sRat_any _ _ _ (by omega) (by omega)).mono ?_
      rintro en w1 ⟨rfl, hb1⟩
      have hB1 : Below w.heap.size w w1 := by first | exact hb1 | exact Below.trans (by repeat (first | exact Below.refl _ _ | refine Below.drew ?_ | refine below_drewN ?_ _ | refine Below.alloc ?_ (by (try simp only [World.size_alloc, World.size_drew, size_drewN, World.size_setCell]); omega) _ | refine Below.setCell ?_ (by (try dsimp only); omega) _)) (hb1.mono (by (try simp only [World.size_alloc, World.size_drew, size_drewN, World.size_setCell]); omega))
      have f1 : w1.cell? ⟨w.heap.size, 0, none⟩ = some (.int .i64 0) := (hb1.cell (p := ⟨w.heap.size, 0, none⟩) (by first | (go_size; done) | (simp; done) | (simp <;> omega))).trans (by go_simp)
      have z1 : w1.frozen? ⟨w.heap.size, 0, none⟩ = false := (hb1.frozen (p := ⟨w.heap.size, 0, none⟩) (by first | (go_size; done) | (simp; done) | (simp <;> omega))).trans (by go_simp)
      have f2 : w1.cell? ⟨w.heap.size, 1, none⟩ = some (.int .i64 0) := (hb1.cell (p := ⟨w.heap.size, 1, none⟩) (by first | (go_size; done) | (simp; done) | (simp <;> omega))).trans (by go_simp)
      have z2 : w1.frozen? ⟨w.heap.size, 1, none⟩ = false := (hb1.frozen (p := ⟨w.heap.size, 1, none⟩) (by first | (go_size; done) | (simp; done) | (simp <;> omega))).trans (by go_simp)
      have f3 : w1.cell? ⟨w.heap.size + 1, 0, none⟩ = some (.int .i64 (Int.tdiv m g)) := (hb1.cell (p := ⟨w.heap.size + 1, 0, none⟩) (by first | (go_size; done) | (simp; done) | (simp <;> omega))).trans (by go_simp)
      have f4 : w1.cell? ⟨w.heap.size + 1, 1, none⟩ = some (.int .i64 (Int.tdiv k g)) := (hb1.cell (p := ⟨w.heap.size + 1, 1, none⟩) (by first | (go_size; done) | (simp; done) | (simp <;> omega))).trans (by go_simp)
      have l5 : w.heap.size < w1.heap.size := World.block_lt_of_cell? _ _ f1
      have l6 : w.heap.size + 1 < w1.heap.size := World.block_lt_of_cell? _ _ f3
      have hZ1 := hB1.size
      go_wp2
      refine bodyPost_ret (v := .tuple #[.agg #[.int .i64 (ratX (-m) (-k)), .int .i64 (ratY (-m) (-k))], .int .i64 (ratC (-m) (-k) 2)]) (by rw [HV.out.1, HV.out.2.1, HV.out.2.2]; simp [results, Try.results114, go_sem, f1, f2, f3, f4, z1, z2, l5, Nat.ne_of_lt l5, l6, Nat.ne_of_lt l6]) rfl ⟨rfl, by have hx := hB1; first | (go_grown; done) | exact below_drewN (by go_grown) _⟩
    · have HV : Hid (ratX (-m) (-k) = 0 ∧ ratY (-m) (-k) = 0 ∧ ratC (-m) (-k) 2 = 2) := by
        have : ratOk (-m) (-k) = false := by unfold ratOk; rw [HA, HB]; exact h3
        show _ ∧ _ ∧ _; unfold ratX ratY ratC; rw [this]; exact ⟨rfl, rfl, rfl⟩
      clear HA HB
      go_enter Try.func114, Try.ntmps114
      go_wp2_with fail
      refine (sGcd_any _ _ _ (by omega) (by omega)).mono ?_
      rintro en wz ⟨rfl, mq, rfl⟩
      rw [← HG.out]
      go_wp2
      go_region
      go_wp2_with fail
      refine (sRat_any _ _ _ (by omega) (by omega)).mono ?_
      rintro en w1 ⟨rfl, hb1⟩
      have hB1 : Below w.heap.size w w1 := by first | exact hb1 | exact Below.trans (by repeat (first | exact Below.refl _ _ | refine Below.drew ?_ | refine below_drewN ?_ _ | refine Below.alloc ?_ (by (try simp only [World.size_alloc, World.size_drew, size_drewN, World.size_setCell]); omega) _ | refine Below.setCell ?_ (by (try dsimp only); omega) _)) (hb1.mono (by (try simp only [World.size_alloc, World.size_drew, size_drewN, World.size_setCell]); omega))
      have f1 : w1.cell? ⟨w.heap.size, 0, none⟩ = some (.int .i64 0) := (hb1.cell (p := ⟨w.heap.size, 0, none⟩) (by first | (go_size; done) | (simp; done) | (simp <;> omega))).trans (by go_simp)
      have z1 : w1.frozen? ⟨w.heap.size, 0, none⟩ = false := (hb1.frozen (p := ⟨w.heap.size, 0, none⟩) (by first | (go_size; done) | (simp; done) | (simp <;> omega))).trans (by go_simp)
      have f2 : w1.cell? ⟨w.heap.size, 1, none⟩ = some (.int .i64 0) := (hb1.cell (p := ⟨w.heap.size, 1, none⟩) (by first | (go_size; done) | (simp; done) | (simp <;> omega))).trans (by go_simp)
      have z2 : w1.frozen? ⟨w.heap.size, 1, none⟩ = false := (hb1.frozen (p := ⟨w.heap.size, 1, none⟩) (by first | (go_size; done) | (simp; done) | (simp <;> omega))).trans (by go_simp)
      have f3 : w1.cell? ⟨w.heap.size + 1, 0, none⟩ = some (.int .i64 (Int.tdiv m g)) := (hb1.cell (p := ⟨w.heap.size + 1, 0, none⟩) (by first | (go_size; done) | (simp; done) | (simp <;> omega))).trans (by go_simp)
      have f4 : w1.cell? ⟨w.heap.size + 1, 1, none⟩ = some (.int .i64 (Int.tdiv k g)) := (hb1.cell (p := ⟨w.heap.size + 1, 1, none⟩) (by first | (go_size; done) | (simp; done) | (simp <;> omega))).trans (by go_simp)
      have l5 : w.heap.size < w1.heap.size := World.block_lt_of_cell? _ _ f1
      have l6 : w.heap.size + 1 < w1.heap.size := World.block_lt_of_cell? _ _ f3
      have hZ1 := hB1.size
      go_wp2
      refine bodyPost_ret (v := .tuple #[.agg #[.int .i64 (ratX (-m) (-k)), .int .i64 (ratY (-m) (-k))], .int .i64 (ratC (-m) (-k) 2)]) (by rw [HV.out.1, HV.out.2.1, HV.out.2.2]; simp [results, Try.results114, go_sem, f1, f2, f3, f4, z1, z2, l5, Nat.ne_of_lt l5, l6, Nat.ne_of_lt l6]) rfl ⟨rfl, by have hx := hB1; first | (go_grown; done) | exact below_drewN (by go_grown) _⟩
  · have h2 : ¬ d < 0 := by omega
    have HN : ratN n d = n ∧ ratD d = d := by unfold ratN ratD; constructor <;> rw [if_neg (by omega)]
    have g0 := gcdI_pos (n := n) (d := d) (by omega)
    have g1 := gcdI_le (n := n) (d := d) (by omega)
    have HA : ratA n d = Int.tdiv n (gcdI n d) := by unfold ratA; rw [HN.1, HN.2]
    have HB : ratB n d = Int.tdiv d (gcdI n d) := by unfold ratB; rw [HN.1, HN.2]
    obtain ⟨g, hg⟩ : ∃ g, g = gcdI n d := ⟨_, rfl⟩
    rw [← hg] at g0 g1 HA HB
    have HG : Hid (g = ((Int.gcd n d : Nat) : Int)) := hg
    clear hg HN
    have g2 : g ≤ 1000000000000000000 := by unfold iabs at g1; omega
    clear g1
    have q1 := tdiv_bd (a := n) (b := g) (M := 1000000000000000000) (by omega)
    have q2 := tdiv_bd (a := d) (b := g) (M := 1000000000000000000) (by omega)
    have gz : (g == 0) = false := by simp; omega
    have gz2 : ¬ g = 0 := by omega
    rcases Bool.eq_false_or_eq_true (isRat (Int.tdiv n g) (Int.tdiv d g)) with h3 | h3
    · have HV : Hid (ratX n d = Int.tdiv n g ∧ ratY n d = Int.tdiv d g ∧ ratC n d 2 = 0) := by
        have : ratOk n d = true := by unfold ratOk; rw [HA, HB]; exact h3
        show _ ∧ _ ∧ _; unfold ratX ratY ratC; rw [this, HA, HB]; exact ⟨rfl, rfl, rfl⟩
      clear HA HB
      go_enter Try.func114, Try.ntmps114
      go_wp2_with fail
      refine (sGcd_any _ _ _ (by omega) (by omega)).mono ?_
      rintro en wz ⟨rfl, mq, rfl⟩
      rw [← HG.out]
      go_wp2
      go_region
      go_wp2_with fail
      refine (sRat_any _ _ _ (by omega) (by omega)).mono ?_
      rintro en w1 ⟨rfl, hb1⟩
      have hB1 : Below w.heap.size w w1 := by first | exact hb1 | exact Below.trans (by repeat (first | exact Below.refl _ _ | refine Below.drew ?_ | refine below_drewN ?_ _ | refine Below.alloc ?_ (by (try simp only [World.size_alloc, World.size_drew, size_drewN, World.size_setCell]); omega) _ | refine Below.setCell ?_ (by (try dsimp only); omega) _)) (hb1.mono (by (try simp only [World.size_alloc, World.size_drew, size_drewN, World.size_setCell]); omega))
      have f1 : w1.cell? ⟨w.heap.size, 0, none⟩ = some (.int .i64 0) := (hb1.cell (p := ⟨w.heap.size, 0, none⟩) (by first | (go_size; done) | (simp; done) | (simp <;> omega))).trans (by go_simp)
      have z1 : w1.frozen? ⟨w.heap.size, 0, none⟩ = false := (hb1.frozen (p := ⟨w.heap.size, 0, none⟩) (by first | (go_size; done) | (simp; done) | (simp <;> omega))).trans (by go_simp)
      have f2 : w1.cell? ⟨w.heap.size, 1, none⟩ = some (.int .i64 0) := (hb1.cell (p := ⟨w.heap.size, 1, none⟩) (by first | (go_size; done) | (simp; done) | (simp <;> omega))).trans (by go_simp)
      have z2 : w1.frozen? ⟨w.heap.size, 1, none⟩ = false := (hb1.frozen (p := ⟨w.heap.size, 1, none⟩) (by first | (go_size; done) | (simp; done) | (simp <;> omega))).trans (by go_simp)
      have f3 : w1.cell? ⟨w.heap.size + 1, 0, none⟩ = some (.int .i64 (Int.tdiv n g)) := (hb1.cell (p := ⟨w.heap.size + 1, 0, none⟩) (by first | (go_size; done) | (simp; done) | (simp <;> omega))).trans (by go_simp)
      have f4 : w1.cell? ⟨w.heap.size + 1, 1, none⟩ = some (.int .i64 (Int.tdiv d g)) := (hb1.cell (p := ⟨w.heap.size + 1, 1, none⟩) (by first | (go_size; done) | (simp; done) | (simp <;> omega))).trans (by go_simp)
      have l5 : w.heap.size < w1.heap.size := World.block_lt_of_cell? _ _ f1
      have l6 : w.heap.size + 1 < w1.heap.size := World.block_lt_of_cell? _ _ f3
      have hZ1 := hB1.size
      go_wp2
      refine bodyPost_ret (v := .tuple #[.agg #[.int .i64 (ratX n d), .int .i64 (ratY n d)], .int .i64 (ratC n d 2)]) (by rw [HV.out.1, HV.out.2.1, HV.out.2.2]; simp [results, Try.results114, go_sem, f1, f2, f3, f4, z1, z2, l5, Nat.ne_of_lt l5, l6, Nat.ne_of_lt l6]) rfl ⟨rfl, by have hx := hB1; first | (go_grown; done) | exact below_drewN (by go_grown) _⟩
    · have HV : Hid (ratX n d = 0 ∧ ratY n d = 0 ∧ ratC n d 2 = 2) := by
        have : ratOk n d = false := by unfold ratOk; rw [HA, HB]; exact h3
        show _ ∧ _ ∧ _; unfold ratX ratY ratC; rw [this]; exact ⟨rfl, rfl, rfl⟩
      clear HA HB
      go_enter Try.func114, Try.ntmps114
      go_wp2_with fail
      refine (sGcd_any _ _ _ (by omega) (by omega)).mono ?_
      rintro en wz ⟨rfl, mq, rfl⟩
      rw [← HG.out]
      go_wp2
      go_region
      go_wp2_with fail
      refine (sRat_any _ _ _ (by omega) (by omega)).mono ?_
      rintro en w1 ⟨rfl, hb1⟩
      have hB1 : Below w.heap.size w w1 := by first | exact hb1 | exact Below.trans (by repeat (first | exact Below.refl _ _ | refine Below.drew ?_ | refine below_drewN ?_ _ | refine Below.alloc ?_ (by (try simp only [World.size_alloc, World.size_drew, size_drewN, World.size_setCell]); omega) _ | refine Below.setCell ?_ (by (try dsimp only); omega) _)) (hb1.mono (by (try simp only [World.size_alloc, World.size_drew, size_drewN, World.size_setCell]); omega))
      have f1 : w1.cell? ⟨w.heap.size, 0, none⟩ = some (.int .i64 0) := (hb1.cell (p := ⟨w.heap.size, 0, none⟩) (by first | (go_size; done) | (simp; done) | (simp <;> omega))).trans (by go_simp)
      have z1 : w1.frozen? ⟨w.heap.size, 0, none⟩ = false := (hb1.frozen (p := ⟨w.heap.size, 0, none⟩) (by first | (go_size; done) | (simp; done) | (simp <;> omega))).trans (by go_simp)
      have f2 : w1.cell? ⟨w.heap.size, 1, none⟩ = some (.int .i64 0) := (hb1.cell (p := ⟨w.heap.size, 1, none⟩) (by first | (go_size; done) | (simp; done) | (simp <;> omega))).trans (by go_simp)
      have z2 : w1.frozen? ⟨w.heap.size, 1, none⟩ = false := (hb1.frozen (p := ⟨w.heap.size, 1, none⟩) (by first | (go_size; done) | (simp; done) | (simp <;> omega))).trans (by go_simp)
      have f3 : w1.cell? ⟨w.heap.size + 1, 0, none⟩ = some (.int .i64 (Int.tdiv n g)) := (hb1.cell (p := ⟨w.heap.size + 1, 0, none⟩) (by first | (go_size; done) | (simp; done) | (simp <;> omega))).trans (by go_simp)
      have f4 : w1.cell? ⟨w.heap.size + 1, 1, none⟩ = some (.int .i64 (Int.tdiv d g)) := (hb1.cell (p := ⟨w.heap.size + 1, 1, none⟩) (by first | (go_size; done) | (simp; done) | (simp <;> omega))).trans (by go_simp)
      have l5 : w.heap.size < w1.heap.size := World.block_lt_of_cell? _ _ f1
      have l6 : w.heap.size + 1 < w1.heap.size := World.block_lt_of_cell? _ _ f3
      have hZ1 := hB1.size
      go_wp2
      refine bodyPost_ret (v := .tuple #[.agg #[.int .i64 (ratX n d), .int .i64 (ratY n d)], .int .i64 (ratC n d 2)]) (by rw [HV.out.1, HV.out.2.1, HV.out.2.2]; simp [results, Try.results114, go_sem, f1, f2, f3, f4, z1, z2, l5, Nat.ne_of_lt l5, l6, Nat.ne_of_lt l6]) rfl ⟨rfl, by have hx := hB1; first | (go_grown; done) | exact below_drewN (by go_grown) _⟩
end Go.Proofs.Ytoccglmlpobeeaa
