/- walks: arrays -/
import Derived.Test.YtfmhbphbgdijpaaWL
import Derived.Test.YtfmhbphbgdijpaaPlain2
set_option linter.unusedVariables false
set_option linter.unusedSimpArgs false
namespace Go.Proofs.Ytfmhbphbgdijpaa
open Go.RowKit

theorem Rd.drewN {w : World} {A : Option Addr} {xs : List Int} (h : Rd w A xs) (m : Nat) : Rd (w.drewN m) A xs := h.of_eq fun a v hv => hv
theorem bquiet {w w9 : World} {m : Nat} (h : w9 = w.drewN m) : Below w.heap.size w w9 := by rw [h]; exact below_drewN (Below.refl _ _) _

set_option maxHeartbeats 2000000 in
theorem iArr_any (A : Option Addr) (n c : Nat) (xs : List Int) (w : World) (hn : xs.length = n) (hnc : n ≤ c) (hm : n ≤ 1048576) (hr : Rd w A xs) :
    Calls Try.prog 16 #[.slice A n c] w fun en w9 => en = .returned (.bool (isArr xs)) ∧ ∃ m, w9 = w.drewN m := by
  have HA : 1 ≤ n → n ≤ 12 → allIn (-10000) 10000 xs = true → Hid (isArr xs = ascTo xs n) := fun h1 h2 h3 => by
    show _ = _; simp [isArr, hn, h1, h2, h3]
  have HNO : ¬ (1 ≤ n ∧ n ≤ 12 ∧ allIn (-10000) 10000 xs = true) → Hid (isArr xs = false) := fun h => by
    show _ = _
    cases hx : isArr xs with
    | false => rfl
    | true =>
      exfalso; apply h
      simp only [isArr, hn, Bool.and_eq_true, decide_eq_true_eq] at hx
      exact ⟨hx.1.1.1, hx.1.1.2, hx.1.2⟩
  by_cases h1 : 1 ≤ n
  · have hd1 : ¬ (n : Int) < 1 := by omega
    by_cases h2 : n ≤ 12
    · have hd2 : inR (n : Int) 1 12 = true := inR_iff.2 (by omega)
      have hd3 : decide ((n : Int) ≤ 12) = true := decide_eq_true (by omega)
      rcases Bool.eq_false_or_eq_true (allIn (-10000) 10000 xs) with h3 | h3
      · have HV := HA h1 h2 h3
        clear HA HNO
        have hr0 := hr
        rcases hr with rfl | ⟨b, off, rfl, hc⟩
        · exfalso; simp at hn; omega
        have HC := Lib.hid hc; clear hc
        go_enter Try.func16, Try.ntmps16
        go_wp2_with (first | (go_at_call 55; refine (len_any _ _ _ _).mono ?_; rintro en w1 ⟨rfl, rfl⟩) | (go_at_call 54; refine (within_any _ _ _ _).mono ?_; rintro en w1 ⟨rfl, rfl⟩) | (go_at_call 56; refine (areWithin_any _ _ _ _ _ _ _ (by assumption) (by omega) (by assumption)).mono ?_; rintro en w1 ⟨rfl, rfl⟩))
        have HN := Lib.hid hn; clear hn
        go_loopw [3] (fun i wr => ∃ k m : Nat, 1 ≤ k ∧ k ≤ n ∧ i = .int .i64 (k : Int) ∧ Hid (ascTo xs k = true) ∧ wr = w.drewN m) (fun i _ => n - (intOf i).toNat)
        case atStart => exact ⟨1, 0, Nat.le_refl _, h1, rfl, ascTo_one xs, rfl⟩
        case round =>
          obtain ⟨k, m, hk1, hk, rfl, HK, hwr⟩ := hrel
          have HW := Lib.hid hwr; clear hwr
          by_cases hlt : k < n
          · have hck : wr.cell? ⟨b, off + k, none⟩ = some (.int .i64 (xs.getD k 0)) := by rw [HW.out]; exact HC.out k (by rw [HN.out]; exact hlt)
            have hdk : wr.cell? ⟨b, off + (k - 1), none⟩ = some (.int .i64 (xs.getD (k - 1) 0)) := by rw [HW.out]; exact HC.out (k - 1) (by rw [HN.out]; omega)
            have hek : wr.cell? ⟨b, off + ((k : Int) - 1).toNat, none⟩ = some (.int .i64 (xs.getD (k - 1) 0)) := by
              rw [show ((k : Int) - 1).toNat = k - 1 by omega]; exact hdk
            have HU : xs.getD (k - 1) 0 < xs.getD k 0 → Hid (ascTo xs (k + 1) = true) := fun h => ascTo_up HK.out h
            have HD : xs.getD k 0 ≤ xs.getD (k - 1) 0 → Hid (ascTo xs n = false) := fun h => ascTo_down hk1 h hlt
            obtain ⟨x, hx⟩ : ∃ x, x = xs.getD k 0 := ⟨_, rfl⟩
            obtain ⟨y, hy⟩ : ∃ y, y = xs.getD (k - 1) 0 := ⟨_, rfl⟩
            rw [← hx] at hck HU HD
            rw [← hy] at hdk hek HU HD
            clear hx hy
            have hi0 : (k : Int) < n := by omega
            have hi1 : 0 ≤ (k : Int) - 1 := by omega
            have hi2 : (k : Int) - 1 < n := by omega
            rcases Int.lt_or_le y x with hxy | hxy
            · have HP := HU hxy
              clear HU HD
              go_wp2
              go_quiet (fail)
              go_wp2
              go_roundw
              case rel => exact ⟨k + 1, m + nq, by omega, by omega, by go_num, HP, by rw [HW.out]; exact World.drewN_drewN _ _ _⟩
              case measure => simp [intOf]; omega
            · have HP := HD hxy
              clear HU HD
              go_wp2
              go_quiet (fail)
              go_wp2
              go_ret
              exact ⟨by rw [HV.out, HP.out]; rfl, m + nq, by rw [HW.out]; exact World.drewN_drewN _ _ _⟩
          · obtain rfl : k = n := by omega
            go_wp2
            go_ret
            exact ⟨by rw [HV.out, HK.out]; rfl, m, HW.out⟩
      · have HV := HNO (fun h => by rw [h3] at h; exact absurd h.2.2 (by decide))
        clear HA HNO
        go_enter Try.func16, Try.ntmps16
        go_wp2_with (first | (go_at_call 55; refine (len_any _ _ _ _).mono ?_; rintro en w1 ⟨rfl, rfl⟩) | (go_at_call 54; refine (within_any _ _ _ _).mono ?_; rintro en w1 ⟨rfl, rfl⟩) | (go_at_call 56; refine (areWithin_any _ _ _ _ _ _ _ (by assumption) (by omega) (by assumption)).mono ?_; rintro en w1 ⟨rfl, rfl⟩))
        go_ret
        exact ⟨by rw [HV.out]; rfl, 0, rfl⟩
    · have hd2 : inR (n : Int) 1 12 = false := inR_not.2 (by omega)
      have hd3 : decide ((n : Int) ≤ 12) = false := decide_eq_false (by omega)
      have HV := HNO (fun h => h2 h.2.1)
      clear HA HNO
      rcases Bool.eq_false_or_eq_true (allIn (-10000) 10000 xs) with h3 | h3
      all_goals (go_enter Try.func16, Try.ntmps16; go_wp2_with (first | (go_at_call 55; refine (len_any _ _ _ _).mono ?_; rintro en w1 ⟨rfl, rfl⟩) | (go_at_call 54; refine (within_any _ _ _ _).mono ?_; rintro en w1 ⟨rfl, rfl⟩) | (go_at_call 56; refine (areWithin_any _ _ _ _ _ _ _ (by assumption) (by omega) (by assumption)).mono ?_; rintro en w1 ⟨rfl, rfl⟩)); go_ret; exact ⟨by rw [HV.out]; rfl, 0, rfl⟩)
  · have hd1 : (n : Int) < 1 := by omega
    have hd2 : inR (n : Int) 1 12 = false := inR_not.2 (by omega)
    have HV := HNO (fun h => h1 h.1)
    clear HA HNO
    go_enter Try.func16, Try.ntmps16
    go_wp2_with (first | (go_at_call 55; refine (len_any _ _ _ _).mono ?_; rintro en w1 ⟨rfl, rfl⟩) | (go_at_call 54; refine (within_any _ _ _ _).mono ?_; rintro en w1 ⟨rfl, rfl⟩) | (go_at_call 56; refine (areWithin_any _ _ _ _ _ _ _ (by assumption) (by omega) (by assumption)).mono ?_; rintro en w1 ⟨rfl, rfl⟩))
    go_ret
    exact ⟨by rw [HV.out]; rfl, 0, rfl⟩

set_option maxHeartbeats 2000000 in
theorem sArr_any (A : Option Addr) (n c : Nat) (xs : List Int) (w : World) (hn : xs.length = n) (hnc : n ≤ c) (hm : n ≤ 1048576) (hr : Rd w A xs) :
    Calls Try.prog 14 #[.slice A n c] w fun en w9 => en = .returned (.bool (isArr xs)) ∧ ∃ m, w9 = w.drewN m := by
  have HA : 1 ≤ n → n ≤ 12 → allIn (-10000) 10000 xs = true → Hid (isArr xs = ascTo xs n) := fun h1 h2 h3 => by
    show _ = _; simp [isArr, hn, h1, h2, h3]
  have HNO : ¬ (1 ≤ n ∧ n ≤ 12 ∧ allIn (-10000) 10000 xs = true) → Hid (isArr xs = false) := fun h => by
    show _ = _
    cases hx : isArr xs with
    | false => rfl
    | true =>
      exfalso; apply h
      simp only [isArr, hn, Bool.and_eq_true, decide_eq_true_eq] at hx
      exact ⟨hx.1.1.1, hx.1.1.2, hx.1.2⟩
  by_cases h1 : 1 ≤ n
  · have hd1 : ¬ (n : Int) < 1 := by omega
    by_cases h2 : n ≤ 12
    · have hd2 : inR (n : Int) 1 12 = true := inR_iff.2 (by omega)
      have hd3 : decide ((n : Int) ≤ 12) = true := decide_eq_true (by omega)
      rcases Bool.eq_false_or_eq_true (allIn (-10000) 10000 xs) with h3 | h3
      · have HV := HA h1 h2 h3
        clear HA HNO
        have hr0 := hr
        rcases hr with rfl | ⟨b, off, rfl, hc⟩
        · exfalso; simp at hn; omega
        have HC := Lib.hid hc; clear hc
        go_enter Try.func14, Try.ntmps14
        go_wp2_with (first | (go_at_call 53; refine (l01Within_any _ _ _ _ _ _ _ _ (by assumption) (by omega) (by assumption)).mono ?_; rintro en w1 ⟨rfl, rfl⟩))
        have HN := Lib.hid hn; clear hn
        go_loopw [3] (fun i wr => ∃ k m : Nat, 1 ≤ k ∧ k ≤ n ∧ i = .int .i64 (k : Int) ∧ Hid (ascTo xs k = true) ∧ wr = w.drewN m) (fun i _ => n - (intOf i).toNat)
        case atStart => exact ⟨1, 0, Nat.le_refl _, h1, rfl, ascTo_one xs, rfl⟩
        case round =>
          obtain ⟨k, m, hk1, hk, rfl, HK, hwr⟩ := hrel
          have HW := Lib.hid hwr; clear hwr
          by_cases hlt : k < n
          · have hck : wr.cell? ⟨b, off + k, none⟩ = some (.int .i64 (xs.getD k 0)) := by rw [HW.out]; exact HC.out k (by rw [HN.out]; exact hlt)
            have hdk : wr.cell? ⟨b, off + (k - 1), none⟩ = some (.int .i64 (xs.getD (k - 1) 0)) := by rw [HW.out]; exact HC.out (k - 1) (by rw [HN.out]; omega)
            have hek : wr.cell? ⟨b, off + ((k : Int) - 1).toNat, none⟩ = some (.int .i64 (xs.getD (k - 1) 0)) := by
              rw [show ((k : Int) - 1).toNat = k - 1 by omega]; exact hdk
            have HU : xs.getD (k - 1) 0 < xs.getD k 0 → Hid (ascTo xs (k + 1) = true) := fun h => ascTo_up HK.out h
            have HD : xs.getD k 0 ≤ xs.getD (k - 1) 0 → Hid (ascTo xs n = false) := fun h => ascTo_down hk1 h hlt
            obtain ⟨x, hx⟩ : ∃ x, x = xs.getD k 0 := ⟨_, rfl⟩
            obtain ⟨y, hy⟩ : ∃ y, y = xs.getD (k - 1) 0 := ⟨_, rfl⟩
            rw [← hx] at hck HU HD
            rw [← hy] at hdk hek HU HD
            clear hx hy
            have hi0 : (k : Int) < n := by omega
            have hi1 : 0 ≤ (k : Int) - 1 := by omega
            have hi2 : (k : Int) - 1 < n := by omega
            rcases Int.lt_or_le y x with hxy | hxy
            · have HP := HU hxy
              clear HU HD
              go_wp2
              go_quiet (fail)
              go_wp2
              go_roundw
              case rel => exact ⟨k + 1, m + nq, by omega, by omega, by go_num, HP, by rw [HW.out]; exact World.drewN_drewN _ _ _⟩
              case measure => simp [intOf]; omega
            · have HP := HD hxy
              clear HU HD
              go_wp2
              go_quiet (fail)
              go_wp2
              go_ret
              exact ⟨by rw [HV.out, HP.out]; rfl, m + nq, by rw [HW.out]; exact World.drewN_drewN _ _ _⟩
          · obtain rfl : k = n := by omega
            go_wp2
            go_ret
            exact ⟨by rw [HV.out, HK.out]; rfl, m, HW.out⟩
      · have HV := HNO (fun h => by rw [h3] at h; exact absurd h.2.2 (by decide))
        clear HA HNO
        go_enter Try.func14, Try.ntmps14
        go_wp2_with (first | (go_at_call 53; refine (l01Within_any _ _ _ _ _ _ _ _ (by assumption) (by omega) (by assumption)).mono ?_; rintro en w1 ⟨rfl, rfl⟩))
        go_ret
        exact ⟨by rw [HV.out]; rfl, 0, rfl⟩
    · have hd2 : inR (n : Int) 1 12 = false := inR_not.2 (by omega)
      have hd3 : decide ((n : Int) ≤ 12) = false := decide_eq_false (by omega)
      have HV := HNO (fun h => h2 h.2.1)
      clear HA HNO
      rcases Bool.eq_false_or_eq_true (allIn (-10000) 10000 xs) with h3 | h3
      all_goals (go_enter Try.func14, Try.ntmps14; go_wp2_with (first | (go_at_call 53; refine (l01Within_any _ _ _ _ _ _ _ _ (by assumption) (by omega) (by assumption)).mono ?_; rintro en w1 ⟨rfl, rfl⟩)); go_ret; exact ⟨by rw [HV.out]; rfl, 0, rfl⟩)
  · have hd1 : (n : Int) < 1 := by omega
    have hd2 : inR (n : Int) 1 12 = false := inR_not.2 (by omega)
    have HV := HNO (fun h => h1 h.1)
    clear HA HNO
    go_enter Try.func14, Try.ntmps14
    go_wp2_with (first | (go_at_call 53; refine (l01Within_any _ _ _ _ _ _ _ _ (by assumption) (by omega) (by assumption)).mono ?_; rintro en w1 ⟨rfl, rfl⟩))
    go_ret
    exact ⟨by rw [HV.out]; rfl, 0, rfl⟩
end Go.Proofs.Ytfmhbphbgdijpaa
