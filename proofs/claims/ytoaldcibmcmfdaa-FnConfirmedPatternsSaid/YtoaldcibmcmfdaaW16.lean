/- walks: patterns counted by the reference, the recursion -/
import Derived.Test.YtoaldcibmcmfdaaW15
set_option linter.unusedVariables false
set_option linter.unusedSimpArgs false
namespace Go.Proofs.Ytoaldcibmcmfdaa
open Go.RowKit

theorem pat_bd {n r k : Nat} {a m : Int} {xs : List Int} (hn : n ≤ 12) (a1 : a ≤ 16) (hl : xs.length + r = n) : 0 ≤ patSum (cf a m k) xs r ∧ patSum (cf a m k) xs r ≤ 1152921504606846976 := by
  have h := patSum_bd (f := cf a m k) (M := 281474976710656) xs r (fun p => (cf_bd a1 p).1) (fun p hp => Int.le_trans (cf_bd a1 p).2 (p16_le _ (by omega)))
  have h2 := pow2_le (r := r) (by omega)
  have := Int.mul_le_mul_of_nonneg_right h2.2 (show (0 : Int) ≤ 281474976710656 by decide)
  exact ⟨h.1, by omega⟩
set_option maxHeartbeats 8000000 in
theorem sLeaf_any (n k : Nat) (a m : Int) (v : Value) (xs : List Int) (w : World) (hn : n ≤ 12) (a0 : -1 ≤ a) (a1 : a ≤ 16) (hk0 : 1 ≤ k) (hk1 : k ≤ 12) (hl : xs.length = n) (hb : Hid (∀ x ∈ xs, 0 ≤ x ∧ x ≤ 1)) (h : PatV w v xs) :
    Calls Try.prog 51 #[v, .int .i64 n, .int .i64 a, .int .i64 m, .int .i64 k] w fun en w9 => en = .returned (.int .i64 (cf a m k xs)) ∧ Below w.heap.size w w9 := by
  have hb1 : Hid (∀ x ∈ xs, -1 ≤ x ∧ x ≤ 1) := fun x hx => by have := hb.out x hx; omega
  obtain ⟨q, hq⟩ : ∃ q, conf xs m k = q := ⟨_, rfl⟩
  have HQ := Lib.hid hq; clear hq
  have HF : Hid (cf a m k xs = if q < 0 then 0 else cw a xs) := by show _ = _; unfold cf; rw [HQ.out]
  have hconf : ∀ (A : Option Addr) (c : Nat) (w1 : World), n ≤ c → Rd w1 A xs → Calls Try.prog 57 #[.slice A n c, .int .i64 m, .int .i64 k] w1 fun en w9 => en = .returned (.int .i64 q) ∧ w1 = w9 := fun A c w1 hc hr =>
    (sConfirm_any A n c k m xs w1 hl hc (by omega) hr hk0 hk1 hb1).mono fun _ _ h => ⟨by rw [h.1, HQ.out], h.2⟩
  have HCF := Lib.hid hconf; clear hconf
  rcases h with ⟨rfl, rfl⟩ | ⟨b, off, c, rfl, hc0, h0, hc⟩
  · obtain rfl : n = 0 := by simpa using hl.symm
    rcases Int.lt_or_le q 0 with hq0 | hq0
    · go_enter Try.func51, Try.ntmps51
      go_wp2_with (go_at_call 57; refine (HCF.out none 0 _ (Nat.le_refl _) (Rd.nil _ _)).mono ?_; rintro en wq ⟨rfl, rfl⟩)
      go_ret
      exact ⟨by rw [HF.out, if_pos hq0]; rfl, Below.refl _ _⟩
    · have hz : cw a [] = 1 := by unfold cw; split <;> rfl
      have HZ := Lib.hid hz; clear hz
      go_enter Try.func51, Try.ntmps51
      go_wp2_with (go_at_call 57; refine (HCF.out none 0 _ (Nat.le_refl _) (Rd.nil _ _)).mono ?_; rintro en wq ⟨rfl, rfl⟩)
      refine wp_loop_rounds 1 ?_
      rw [rounds_succ]
      go_wp2
      go_ret
      exact ⟨by rw [HF.out, if_neg (by omega), HZ.out]; rfl, Below.refl _ _⟩
  · rw [hl] at hc0 h0 ⊢
    have HC := Lib.hid hc
    have hrd : Rd w (some ⟨b, off, none⟩) xs := .inr ⟨b, off, rfl, hc⟩
    have HR := Lib.hid hrd; clear hrd hc
    have HL := Lib.hid hl; clear hl
    rcases Int.lt_or_le q 0 with hq0 | hq0
    · go_enter Try.func51, Try.ntmps51
      go_wp2_with (go_at_call 57; refine (HCF.out _ c _ hc0 HR.out).mono ?_; rintro en wq ⟨rfl, rfl⟩)
      go_ret
      exact ⟨by rw [HF.out, if_pos hq0]; rfl, Below.refl _ _⟩
    · rcases Int.lt_or_le a 0 with ha | ha
      · have HZ : Hid (cw a xs = 1) := by show _ = _; unfold cw; rw [if_pos ha]
        go_enter Try.func51, Try.ntmps51
        go_wp2_with (go_at_call 57; refine (HCF.out _ c _ hc0 HR.out).mono ?_; rintro en wq ⟨rfl, rfl⟩)
        refine wp_loop_rounds 1 ?_
        rw [rounds_succ]
        go_wp2
        go_ret
        exact ⟨by rw [HF.out, if_neg (by omega), HZ.out]; rfl, Below.refl _ _⟩
      · have HZ : Hid (cw a xs = casesOf a xs) := by show _ = _; unfold cw; rw [if_neg (by omega)]
        go_enter Try.func51, Try.ntmps51
        go_wp2_with (go_at_call 57; refine (HCF.out _ c _ hc0 HR.out).mono ?_; rintro en wq ⟨rfl, rfl⟩)
        go_loop [11, 12] (fun o i => ∃ j : Nat, j ≤ n ∧ i = .int .i64 (j : Int) ∧ o = .int .i64 (casesOf a (xs.take j))) (fun _ i => n - (intOf i).toNat)
        case atStart => exact ⟨0, Nat.zero_le _, rfl, rfl⟩
        case round =>
          obtain ⟨j, hj, rfl, rfl⟩ := hrel
          have hbd := casesOf_bd ha a1 (xs.take j)
          have hll : (xs.take j).length ≤ 12 := by simp; omega
          have hp := p16_le (xs.take j).length hll
          by_cases hlt : j < n
          · have hck := HC.out j (by rw [HL.out]; exact hlt)
            have HT := Lib.hid (casesOf_snoc (a := a) (p := xs) (k := j) (by rw [HL.out]; exact hlt))
            generalize casesOf a (xs.take j) = u at hbd HT ⊢
            have hu : u ≤ 281474976710656 := by omega
            have m1 := mul16 ha a1 hbd.1 hu
            have m2 := mul16 (a := 16 - a) (by omega) (by omega) hbd.1 hu
            rw [Int.mul_comm] at m1 m2
            clear hp hbd
            obtain ⟨x, hx⟩ : ∃ x, x = xs.getD j 0 := ⟨_, rfl⟩
            rw [← hx] at hck
            have HX := Lib.hid hx; clear hx
            have hi1 : (j : Int) < n := by omega
            by_cases h1x : x = 1
            · have HW : Hid (casesOf a (xs.take (j + 1)) = u * a) := by show _ = _; rw [HT.out, ← HX.out, h1x]; rfl
              have hx1 : (x == 1) = true := by simpa using h1x
              clear h1x
              go_wp2
              go_round
              case rel => exact ⟨j + 1, by omega, by go_num, by rw [HW.out]⟩
              case measure => simp [intOf]; omega
            · have HW : Hid (casesOf a (xs.take (j + 1)) = u * (16 - a)) := by show _ = _; rw [HT.out, ← HX.out]; unfold wgt; rw [if_neg h1x]
              have hx1 : (x == 1) = false := by simpa using h1x
              clear h1x
              go_wp2
              go_round
              case rel => exact ⟨j + 1, by omega, by go_num, by rw [HW.out]⟩
              case measure => simp [intOf]; omega
          · obtain rfl : j = n := by omega
            have HA2 : Hid (xs.take j = xs) := List.take_of_length_le (by rw [HL.out]; omega)
            have hd : decide (j < j) = false := by simp
            go_wp2
            go_ret
            exact ⟨by rw [HF.out, if_neg (by omega), HZ.out, HA2.out]; rfl, Below.refl _ _⟩
end Go.Proofs.Ytoaldcibmcmfdaa
