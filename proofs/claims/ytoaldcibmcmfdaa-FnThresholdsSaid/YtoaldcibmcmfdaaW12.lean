/- walks: BestThreshold -/
import Derived.Test.YtoaldcibmcmfdaaW10
set_option linter.unusedVariables false
set_option linter.unusedSimpArgs false
namespace Go.Proofs.Ytoaldcibmcmfdaa
open Go.RowKit

/-- the first index among the first of greatest f -/
def bestTo (f : Nat → Int) : Nat → Nat
  | 0 => 0
  | i + 1 => if f (bestTo f i) < f i then i else bestTo f i
theorem bestTo_lt (f : Nat → Int) (i n : Nat) (h : i ≤ n) (hn : 0 < n) : bestTo f i < n := by
  induction i with
  | zero => exact hn
  | succ i ih =>
    simp only [bestTo]; split
    · omega
    · exact ih (by omega)
theorem bestTo_one (f : Nat → Int) : bestTo f 1 = 0 := by simp only [bestTo]; exact ite_self _
theorem best_up {f : Nat → Int} {k : Nat} (h : f (bestTo f k) < f k) : bestTo f (k + 1) = k := by simp only [bestTo]; rw [if_pos h]
theorem best_stay {f : Nat → Int} {k : Nat} (h : f k ≤ f (bestTo f k)) : bestTo f (k + 1) = bestTo f k := by simp only [bestTo]; rw [if_neg (by omega)]
theorem bestTo_max (f : Nat → Int) (n i : Nat) (h : i < n) : f i ≤ f (bestTo f n) := by
  induction n with
  | zero => omega
  | succ n ih =>
    simp only [bestTo]
    split
    · rename_i h1
      rcases Nat.lt_or_ge i n with h2 | h2
      · have := ih h2; omega
      · have : i = n := by omega
        subst this; exact Int.le_refl _
    · rename_i h1
      rcases Nat.lt_or_ge i n with h2 | h2
      · exact ih h2
      · have : i = n := by omega
        subst this; omega
def dif (n : Nat) (a b : Int) (m : Nat) : Int := tail n b m - tail n a m
def btOk (n a b : Int) : Bool := inR n 0 12 && inR a 0 16 && inR b 0 16
def btVal (n a b : Int) : Int := if btOk n a b then (bestTo (dif n.toNat a b) (n.toNat + 2) : Int) else 0
def btCode (n a b : Int) : Int := if btOk n a b then 0 else 2
theorem bt_bad {n a b : Int} (h : btOk n a b = false) : Hid (btVal n a b = 0 ∧ btCode n a b = 2) := by show _ ∧ _; simp [btVal, btCode, h]
theorem bt_good {n : Nat} {a b : Int} (h : btOk n a b = true) : Hid (btVal n a b = bestTo (dif n a b) (n + 2) ∧ btCode n a b = 0) := by show _ ∧ _; simp [btVal, btCode, h]
theorem bt_parts (n a b : Int) : (inR n 0 12 = false ∧ btOk n a b = false) ∨ (inR n 0 12 = true ∧ inR a 0 16 = false ∧ btOk n a b = false) ∨ (inR n 0 12 = true ∧ inR a 0 16 = true ∧ inR b 0 16 = false ∧ btOk n a b = false) ∨
    (∃ j : Nat, n = j ∧ j ≤ 12 ∧ 0 ≤ a ∧ a ≤ 16 ∧ 0 ≤ b ∧ b ≤ 16 ∧ inR n 0 12 = true ∧ inR a 0 16 = true ∧ inR b 0 16 = true ∧ btOk n a b = true) := by
  cases h1 : inR n 0 12
  · exact .inl ⟨rfl, by simp [btOk, h1]⟩
  · cases h2 : inR a 0 16
    · exact .inr (.inl ⟨rfl, rfl, by simp [btOk, h2]⟩)
    · cases h3 : inR b 0 16
      · exact .inr (.inr (.inl ⟨rfl, rfl, rfl, by simp [btOk, h3]⟩))
      · have g1 := inR_iff.1 h1; have g2 := inR_iff.1 h2; have g3 := inR_iff.1 h3
        exact .inr (.inr (.inr ⟨n.toNat, by omega, by omega, g2.1, g2.2, g3.1, g3.2, rfl, rfl, rfl, by simp [btOk, h1, h2, h3]⟩))
set_option maxHeartbeats 4000000 in
theorem iBT_any (n a b : Int) (w : World) :
    Calls Try.prog 21 #[.int .i64 n, .int .i64 a, .int .i64 b] w fun en w9 => en = .returned (.tuple #[.int .i64 (btVal n a b), .int .i64 (btCode n a b)]) ∧ Below w.heap.size w w9 := by
  rcases bt_parts n a b with ⟨h1, hb⟩ | ⟨h1, h2, hb⟩ | ⟨h1, h2, h3, hb⟩ | ⟨j, rfl, hj, a0, a1, b0, b1, h1, h2, h3, hok⟩
  · have HV := bt_bad hb
    clear hb
    go_enter Try.func21, Try.ntmps21
    go_wp2_with (first | (go_at_call 41; refine (isTrials_any _ _).mono ?_; rintro en w1 ⟨rfl, rfl⟩) | (go_at_call 45; refine (isChance_any _ _).mono ?_; rintro en w1 ⟨rfl, rfl⟩))
    go_ret2
    exact ⟨by rw [HV.out.1, HV.out.2]; rfl, Below.refl _ _⟩
  · have HV := bt_bad hb
    clear hb
    go_enter Try.func21, Try.ntmps21
    go_wp2_with (first | (go_at_call 41; refine (isTrials_any _ _).mono ?_; rintro en w1 ⟨rfl, rfl⟩) | (go_at_call 45; refine (isChance_any _ _).mono ?_; rintro en w1 ⟨rfl, rfl⟩))
    go_ret2
    exact ⟨by rw [HV.out.1, HV.out.2]; rfl, Below.refl _ _⟩
  · have HV := bt_bad hb
    clear hb
    go_enter Try.func21, Try.ntmps21
    go_wp2_with (first | (go_at_call 41; refine (isTrials_any _ _).mono ?_; rintro en w1 ⟨rfl, rfl⟩) | (go_at_call 45; refine (isChance_any _ _).mono ?_; rintro en w1 ⟨rfl, rfl⟩))
    go_ret2
    exact ⟨by rw [HV.out.1, HV.out.2]; rfl, Below.refl _ _⟩
  · have HV := bt_good hok
    clear hok
    go_enter Try.func21, Try.ntmps21
    go_wp2_with (first | (go_at_call 41; refine (isTrials_any _ _).mono ?_; rintro en w1 ⟨rfl, rfl⟩) | (go_at_call 45; refine (isChance_any _ _).mono ?_; rintro en w1 ⟨rfl, rfl⟩))
    refine (tails_any j a _ hj a0 a1).mono ?_
    rintro en w1 ⟨g, rfl, hc, hb⟩
    have HC := Lib.hid hc; clear hc
    go_wp2_with fail
    refine (tails_any j b _ hj b0 b1).mono ?_
    rintro en w2 ⟨h, rfl, hd, hb2⟩
    have HD := Lib.hid hd; clear hd
    have HC2 := Lib.hid (HC.out.below hb2); clear HC
    have hbel := bseq hb hb2
    go_wp2
    go_loopw [10, 33] (fun s i wr => ∃ k p q : Nat, k ≤ j + 2 ∧ p < j + 2 ∧ i = .int .i64 (k : Int) ∧ s = .int .i64 (p : Int) ∧ Hid (p = bestTo (dif j a b) k) ∧ wr = w2.drewN q) (fun _ i _ => j + 2 - (intOf i).toNat)
    case atStart => exact ⟨0, 0, 0, Nat.zero_le _, by omega, rfl, rfl, rfl, rfl⟩
    case round =>
      obtain ⟨k, p, q, hk, hp, rfl, rfl, HP, hwr⟩ := hrel
      have HW := Lib.hid hwr; clear hwr
      by_cases hlt : k < j + 2
      · have rd : ∀ (G : Nat) (e : Int) (i : Nat), Cells w2 G 0 (tls j e 0) → i < j + 2 → wr.cell? ⟨G, i, none⟩ = some (.int .i64 (tail j e i)) := fun G e i hc hi => by
          have h2 := hc.1 i (by rw [tls_len]; exact hi)
          rw [tls_at hi, if_neg (by omega), Nat.zero_add] at h2
          rw [HW.out]; exact h2
        have c1 := rd g a k HC2.out hlt
        have c2 := rd h b k HD.out hlt
        have c3 := rd g a p HC2.out hp
        have c4 := rd h b p HD.out hp
        clear rd
        have t1 := tail_bd j a a0 a1 k; have t2 := tail_bd j b b0 b1 k; have t3 := tail_bd j a a0 a1 p; have t4 := tail_bd j b b0 b1 p
        have tp := p16_le j hj
        have HXU : Hid (tail j b p - tail j a p < tail j b k - tail j a k → k = bestTo (dif j a b) (k + 1)) := fun hh => (best_up (f := dif j a b) (by rw [← HP.out]; exact hh)).symm
        have HXS : Hid (tail j b k - tail j a k ≤ tail j b p - tail j a p → p = bestTo (dif j a b) (k + 1)) := fun hh => by rw [best_stay (f := dif j a b) (by rw [← HP.out]; exact hh)]; exact HP.out
        generalize tail j a k = x1 at *
        generalize tail j b k = x2 at *
        generalize tail j a p = x3 at *
        generalize tail j b p = x4 at *
        have hw1 : IntKind.i64.wrap (x2 - x1) = x2 - x1 := IntWalk.i64_in _ (by omega)
        have hw2 : IntKind.i64.wrap (x4 - x3) = x4 - x3 := IntWalk.i64_in _ (by omega)
        have i1 : (0 : Int) ≤ k := by omega
        have i2 : (k : Int) < j + 2 := by omega
        have i3 : (0 : Int) ≤ p := by omega
        have i4 : (p : Int) < j + 2 := by omega
        rcases Int.lt_or_le (x4 - x3) (x2 - x1) with hh | hh
        · have HP2 := Lib.hid (HXU.out hh)
          clear HXU HXS
          go_wp2
          go_quiet (fail)
          go_wp2
          go_roundw
          case rel => exact ⟨k + 1, k, q + nq, by omega, hlt, by go_num, rfl, HP2, by rw [HW.out]; exact World.drewN_drewN _ _ _⟩
          case measure => simp [intOf]; omega
        · have HP2 := Lib.hid (HXS.out hh)
          clear HXU HXS
          go_wp2
          go_quiet (fail)
          go_wp2
          go_roundw
          case rel => exact ⟨k + 1, p, q + nq, by omega, hp, by go_num, rfl, HP2, by rw [HW.out]; exact World.drewN_drewN _ _ _⟩
          case measure => simp [intOf]; omega
      · obtain rfl : k = j + 2 := by omega
        have HE : Hid ((p : Int) = btVal j a b) := by show _ = _; rw [HV.out.1, HP.out]
        go_wp2
        go_ret2
        exact ⟨by rw [← HE.out, HV.out.2]; rfl, by rw [HW.out]; exact below_drewN hbel _⟩
set_option maxHeartbeats 4000000 in
theorem sBT_any (n a b : Int) (w : World) :
    Calls Try.prog 20 #[.int .i64 n, .int .i64 a, .int .i64 b] w fun en w9 => en = .returned (.tuple #[.int .i64 (btVal n a b), .int .i64 (btCode n a b)]) ∧ w = w9 := by
  rcases bt_parts n a b with ⟨h1, hb⟩ | ⟨h1, h2, hb⟩ | ⟨h1, h2, h3, hb⟩ | ⟨j, rfl, hj, a0, a1, b0, b1, h1, h2, h3, hok⟩
  · have HV := bt_bad hb
    have g : (inR n 0 12 && inR a 0 16) = false := by rw [h1]; rfl
    clear hb
    go_enter Try.func20, Try.ntmps20
    go_wp2_with (first | (go_at_call 39; refine (sScans_any _ _ _).mono ?_; rintro en w1 ⟨rfl, rfl⟩))
    go_ret2
    exact ⟨by rw [HV.out.1, HV.out.2]; rfl, rfl⟩
  · have HV := bt_bad hb
    have g : (inR n 0 12 && inR a 0 16) = false := by rw [h1, h2]; rfl
    clear hb
    go_enter Try.func20, Try.ntmps20
    go_wp2_with (first | (go_at_call 39; refine (sScans_any _ _ _).mono ?_; rintro en w1 ⟨rfl, rfl⟩))
    go_ret2
    exact ⟨by rw [HV.out.1, HV.out.2]; rfl, rfl⟩
  · have HV := bt_bad hb
    have g : (inR n 0 12 && inR a 0 16) = true := by rw [h1, h2]; rfl
    have g2 : (inR n 0 12 && inR b 0 16) = false := by rw [h1, h3]; rfl
    clear hb
    go_enter Try.func20, Try.ntmps20
    go_wp2_with (first | (go_at_call 39; refine (sScans_any _ _ _).mono ?_; rintro en w1 ⟨rfl, rfl⟩))
    go_ret2
    exact ⟨by rw [HV.out.1, HV.out.2]; rfl, rfl⟩
  · have HV := bt_good hok
    have g : (inR (j : Int) 0 12 && inR a 0 16) = true := by rw [h1, h2]; rfl
    have g2 : (inR (j : Int) 0 12 && inR b 0 16) = true := by rw [h1, h3]; rfl
    clear hok
    go_enter Try.func20, Try.ntmps20
    go_wp2_with (first | (go_at_call 39; refine (sScans_any _ _ _).mono ?_; rintro en w1 ⟨rfl, rfl⟩))
    go_loop [8, 9] (fun s i => ∃ k p : Nat, 1 ≤ k ∧ k ≤ j + 2 ∧ p < j + 2 ∧ i = .int .i64 (k : Int) ∧ s = .int .i64 (p : Int) ∧ Hid (p = bestTo (dif j a b) k)) (fun _ i => j + 2 - (intOf i).toNat)
    case atStart => exact ⟨1, 0, Nat.le_refl _, by omega, by omega, rfl, rfl, (bestTo_one _).symm⟩
    case round =>
      obtain ⟨k, p, hk1, hk, hp, rfl, rfl, HP⟩ := hrel
      by_cases hlt : k < j + 2
      · have t1 := tail_bd j a a0 a1 k; have t2 := tail_bd j b b0 b1 k; have t3 := tail_bd j a a0 a1 p; have t4 := tail_bd j b b0 b1 p
        have tp := p16_le j hj
        have i2 : (k : Int) ≤ j + 1 := by omega
        rcases Int.lt_or_le (tail j b p - tail j a p) (tail j b k - tail j a k) with hh | hh
        · have HP2 : Hid (k = bestTo (dif j a b) (k + 1)) := (best_up (f := dif j a b) (by rw [← HP.out]; exact hh)).symm
          go_wp2_with (go_at_call 44; refine (sTail_any _ _ _ _ (by omega) (by omega) (by omega) (by omega)).mono ?_; rintro en w1 ⟨rfl, rfl⟩)
          go_round
          case rel => exact ⟨k + 1, k, by omega, by omega, hlt, by go_num, rfl, HP2⟩
          case measure => simp [intOf]; omega
        · have HP2 : Hid (p = bestTo (dif j a b) (k + 1)) := by show _ = _; rw [best_stay (f := dif j a b) (by rw [← HP.out]; exact hh)]; exact HP.out
          go_wp2_with (go_at_call 44; refine (sTail_any _ _ _ _ (by omega) (by omega) (by omega) (by omega)).mono ?_; rintro en w1 ⟨rfl, rfl⟩)
          go_round
          case rel => exact ⟨k + 1, p, by omega, by omega, hp, by go_num, rfl, HP2⟩
          case measure => simp [intOf]; omega
      · obtain rfl : k = j + 2 := by omega
        have i2 : ¬ ((j : Int) + 2) ≤ j + 1 := by omega
        have HE : Hid ((p : Int) = btVal j a b) := by show _ = _; rw [HV.out.1, HP.out]
        go_wp2
        go_ret2
        exact ⟨by rw [← HE.out, HV.out.2]; rfl, rfl⟩
theorem lawBT_any (n a b : Int) (w : World) : Calls Try.prog 6 #[.int .i64 n, .int .i64 a, .int .i64 b] w fun en w9 => en = .returned (.bool true) ∧ Below w.heap.size w w9 := by
  go_enter Try.func6, Try.ntmps6
  go_wp2_with fail
  refine (sBT_any n a b _).mono ?_
  rintro en w1 ⟨rfl, rfl⟩
  go_wp2_with fail
  refine (iBT_any n a b _).mono ?_
  rintro en w1 ⟨rfl, hb⟩
  go_wp2
  go_ret
  exact ⟨rfl, hb⟩
end Go.Proofs.Ytoaldcibmcmfdaa
