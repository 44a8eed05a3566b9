/- walks: ConfirmScan -/
import Derived.Test.YtoaldcibmcmfdaaWL
import Derived.Test.YtoaldcibmcmfdaaW4
set_option linter.unusedVariables false
set_option linter.unusedSimpArgs false
namespace Go.Proofs.Ytoaldcibmcmfdaa
open Go.RowKit

def hitAt (xs : List Int) (m : Int) (k i : Nat) : Bool := decide (m ≤ lsum ((xs.take (i + 1)).drop (i + 1 - k)))
def conf (xs : List Int) (m : Int) (k : Nat) : Int := match leastN (hitAt xs m k) xs.length 0 with
  | some i => i
  | none => -1
theorem len_any (A : Option Addr) (n c : Nat) (w : World) : Calls Try.prog 72 #[.slice A n c] w fun en w9 => en = .returned (.int .i64 n) ∧ w = w9 := by
  go_enter Try.func72, Try.ntmps72
  go_wp2
  go_ret
  exact ⟨rfl, rfl⟩
theorem getD_sub (xs : List Int) (lo hi i : Nat) (h : lo + i < hi) : ((xs.take hi).drop lo).getD i 0 = xs.getD (lo + i) 0 := by
  simp [List.getElem?_drop, List.getElem?_take, h]
theorem Rd_sub {w : World} {b off : Nat} {xs : List Int} (hc : ∀ k, k < xs.length → w.cell? ⟨b, off + k, none⟩ = some (.int .i64 (xs.getD k 0))) (lo hi : Nat) (h : hi ≤ xs.length) :
    Rd w (some ⟨b, off + lo, none⟩) ((xs.take hi).drop lo) := by
  refine .inr ⟨b, off + lo, rfl, fun k hk => ?_⟩
  have hk2 : lo + k < hi := by simp at hk; omega
  rw [getD_sub xs lo hi k hk2, Nat.add_assoc]
  exact hc (lo + k) (by omega)
theorem Rd_sub0 {w : World} {b off : Nat} {xs : List Int} (hc : ∀ k, k < xs.length → w.cell? ⟨b, off + k, none⟩ = some (.int .i64 (xs.getD k 0))) (lo hi : Nat) (h : hi ≤ xs.length) (h0 : lo = 0) :
    Rd w (some ⟨b, off, none⟩) ((xs.take hi).drop lo) := by
  subst h0; exact Rd_sub hc 0 hi h
theorem sub_mem {xs : List Int} {lo hi : Nat} {P : Int → Prop} (h : ∀ x ∈ xs, P x) : ∀ x ∈ (xs.take hi).drop lo, P x := fun x hx => h x (List.mem_of_mem_take (List.mem_of_mem_drop hx))
theorem conf_hit {xs : List Int} {m : Int} {k j : Nat} (hj : j < xs.length) (hl : ∀ i, i < j → hitAt xs m k i = false) (hp : hitAt xs m k j = true) : conf xs m k = j := by
  unfold conf; rw [leastN_at (hitAt xs m k) xs.length 0 j (fun i _ hi => hl i hi) hp (Nat.zero_le _) (by omega)]
theorem conf_miss {xs : List Int} {m : Int} {k : Nat} (hl : ∀ i, i < xs.length → hitAt xs m k i = false) : conf xs m k = -1 := by
  unfold conf; rw [leastN_none (hitAt xs m k) xs.length 0 (fun i _ hi => hl i (by omega))]
theorem bit_big {xs : List Int} (h : ∀ x ∈ xs, -1 ≤ x ∧ x ≤ 1) : ∀ x ∈ xs, -1000000000000 ≤ x ∧ x ≤ 1000000000000 := fun x hx => by have := h x hx; omega

set_option maxHeartbeats 2000000 in
theorem iConfirm_any (A : Option Addr) (n c k : Nat) (m : Int) (xs : List Int) (w : World) (hn : xs.length = n) (hnc : n ≤ c) (hm : n ≤ 1000) (hr : Rd w A xs) (hk0 : 1 ≤ k) (hk1 : k ≤ 12) (hb : Hid (∀ x ∈ xs, -1 ≤ x ∧ x ≤ 1)) :
    Calls Try.prog 55 #[.slice A n c, .int .i64 m, .int .i64 k] w fun en w9 => en = .returned (.int .i64 (conf xs m k)) ∧ w = w9 := by
  rcases hr with rfl | ⟨b, off, rfl, hc⟩
  · obtain rfl : n = 0 := by simpa using hn.symm
    have e := conf_miss (xs := []) (m := m) (k := k) (fun i hi => absurd hi (Nat.not_lt_zero _))
    have E := Lib.hid e; clear e
    go_enter Try.func55, Try.ntmps55
    go_wp2_with (go_at_call 72; refine (len_any _ _ _ _).mono ?_; rintro en w1 ⟨rfl, rfl⟩)
    refine wp_loop_rounds 1 ?_
    rw [rounds_succ]
    go_wp2
    go_ret
    exact ⟨by rw [E.out]; rfl, rfl⟩
  · have HC := Lib.hid hc; clear hc
    have HN := Lib.hid hn; clear hn
    go_enter Try.func55, Try.ntmps55
    go_wp2_with (go_at_call 72; refine (len_any _ _ _ _).mono ?_; rintro en w1 ⟨rfl, rfl⟩)
    go_loop [10] (fun i => ∃ j : Nat, j ≤ n ∧ i = .int .i64 (j : Int) ∧ Hid (∀ i, i < j → hitAt xs m k i = false)) (fun i => n - (intOf i).toNat)
    case atStart => exact ⟨0, Nat.zero_le _, rfl, fun i hi => absurd hi (Nat.not_lt_zero _)⟩
    case round =>
      obtain ⟨j, hj, rfl, HJ⟩ := hrel
      by_cases hlt : j < n
      · have hc1 : ¬ c = j + 1 - k := by omega
        obtain ⟨S, hS⟩ : ∃ S, S = lsum ((xs.take (j + 1)).drop (j + 1 - k)) := ⟨_, rfl⟩
        have HS := Lib.hid hS; clear hS
        have fin : (m ≤ S ∧ Hid (conf xs m k = j)) ∨ (S < m ∧ Hid (∀ i, i < j + 1 → hitAt xs m k i = false)) := by
          rcases Int.lt_or_le S m with h | h
          · exact .inr ⟨h, below_succ HJ.out (by unfold hitAt; rw [← HS.out]; exact decide_eq_false (by omega))⟩
          · exact .inl ⟨h, conf_hit (by rw [HN.out]; exact hlt) HJ.out (by unfold hitAt; rw [← HS.out]; exact decide_eq_true h)⟩
        rcases Nat.lt_or_ge (j + 1) k with hjk | hjk
        · have hlo : (j : Int) - k + 1 < 0 := by omega
          have hlo2 : ¬ (0 ≤ (j : Int) - k + 1) := by omega
          rcases fin with ⟨hS1, HF⟩ | ⟨hS1, HF⟩
          · go_wp2_with fail
            refine (sumOf_any _ _ _ ((xs.take (j + 1)).drop (j + 1 - k)) w (by simp [HN.out]; omega) (by omega) (bit_big (sub_mem hb.out)) (Rd_sub0 HC.out _ _ (by rw [HN.out]; omega) (by omega))).mono ?_
            rintro en w1 ⟨rfl, rfl⟩
            rw [← HS.out]
            go_wp2
            go_ret
            exact ⟨by rw [HF.out]; rfl, rfl⟩
          · go_wp2_with fail
            refine (sumOf_any _ _ _ ((xs.take (j + 1)).drop (j + 1 - k)) w (by simp [HN.out]; omega) (by omega) (bit_big (sub_mem hb.out)) (Rd_sub0 HC.out _ _ (by rw [HN.out]; omega) (by omega))).mono ?_
            rintro en w1 ⟨rfl, rfl⟩
            rw [← HS.out]
            go_wp2
            go_round
            case rel => exact ⟨j + 1, by omega, by go_num, HF⟩
            case measure => simp [intOf]; omega
        · have hlo : 0 ≤ (j : Int) - k + 1 := by omega
          have HT : Hid (((j : Int) - k + 1).toNat = j + 1 - k) := by show _ = _; omega
          rcases fin with ⟨hS1, HF⟩ | ⟨hS1, HF⟩
          · go_wp2_with fail
            all_goals (try rw [HT.out])
            all_goals refine (sumOf_any _ _ _ ((xs.take (j + 1)).drop (j + 1 - k)) w (by simp [HN.out]; omega) (by omega) (bit_big (sub_mem hb.out)) (by first | exact Rd_sub HC.out _ _ (by rw [HN.out]; omega) | exact Rd_sub0 HC.out _ _ (by rw [HN.out]; omega) (by omega))).mono ?_
            all_goals (rintro en w1 ⟨rfl, rfl⟩; rw [← HS.out]; go_wp2; go_ret; exact ⟨by rw [HF.out]; rfl, rfl⟩)
          · go_wp2_with fail
            all_goals (try rw [HT.out])
            all_goals refine (sumOf_any _ _ _ ((xs.take (j + 1)).drop (j + 1 - k)) w (by simp [HN.out]; omega) (by omega) (bit_big (sub_mem hb.out)) (by first | exact Rd_sub HC.out _ _ (by rw [HN.out]; omega) | exact Rd_sub0 HC.out _ _ (by rw [HN.out]; omega) (by omega))).mono ?_
            all_goals (rintro en w1 ⟨rfl, rfl⟩; rw [← HS.out]; go_wp2; go_round)
            all_goals first | exact ⟨j + 1, by omega, by go_num, HF⟩ | (simp [intOf]; omega)
      · obtain rfl : j = n := by omega
        have HE := Lib.hid (conf_miss (xs := xs) (m := m) (k := k) (by rw [HN.out]; exact HJ.out))
        go_wp2
        go_ret
        exact ⟨by rw [HE.out]; rfl, rfl⟩

set_option maxHeartbeats 2000000 in
theorem sConfirm_any (A : Option Addr) (n c k : Nat) (m : Int) (xs : List Int) (w : World) (hn : xs.length = n) (hnc : n ≤ c) (hm : n ≤ 1000) (hr : Rd w A xs) (hk0 : 1 ≤ k) (hk1 : k ≤ 12) (hb : Hid (∀ x ∈ xs, -1 ≤ x ∧ x ≤ 1)) :
    Calls Try.prog 57 #[.slice A n c, .int .i64 m, .int .i64 k] w fun en w9 => en = .returned (.int .i64 (conf xs m k)) ∧ w = w9 := by
  rcases hr with rfl | ⟨b, off, rfl, hc⟩
  · obtain rfl : n = 0 := by simpa using hn.symm
    have e := conf_miss (xs := []) (m := m) (k := k) (fun i hi => absurd hi (Nat.not_lt_zero _))
    have E := Lib.hid e; clear e
    go_enter Try.func57, Try.ntmps57
    go_wp2
    refine wp_loop_rounds 1 ?_
    rw [rounds_succ]
    go_wp2
    go_ret
    exact ⟨by rw [E.out]; rfl, rfl⟩
  · have HC := Lib.hid hc; clear hc
    have HN := Lib.hid hn; clear hn
    go_enter Try.func57, Try.ntmps57
    go_wp2
    go_loop [7] (fun i => ∃ j : Nat, j ≤ n ∧ i = .int .i64 (j : Int) ∧ Hid (∀ i, i < j → hitAt xs m k i = false)) (fun i => n - (intOf i).toNat)
    case atStart => exact ⟨0, Nat.zero_le _, rfl, fun i hi => absurd hi (Nat.not_lt_zero _)⟩
    case round =>
      obtain ⟨j, hj, rfl, HJ⟩ := hrel
      by_cases hlt : j < n
      · have hc1 : ¬ c = j + 1 - k := by omega
        obtain ⟨S, hS⟩ : ∃ S, S = lsum ((xs.take (j + 1)).drop (j + 1 - k)) := ⟨_, rfl⟩
        have HS := Lib.hid hS; clear hS
        have fin : (m ≤ S ∧ Hid (conf xs m k = j)) ∨ (S < m ∧ Hid (∀ i, i < j + 1 → hitAt xs m k i = false)) := by
          rcases Int.lt_or_le S m with h | h
          · exact .inr ⟨h, below_succ HJ.out (by unfold hitAt; rw [← HS.out]; exact decide_eq_false (by omega))⟩
          · exact .inl ⟨h, conf_hit (by rw [HN.out]; exact hlt) HJ.out (by unfold hitAt; rw [← HS.out]; exact decide_eq_true h)⟩
        rcases Nat.lt_or_ge (j + 1) k with hjk | hjk
        · have hlo : (j : Int) + 1 - k < 0 := by omega
          have hlo2 : ¬ (0 ≤ (j : Int) + 1 - k) := by omega
          rcases fin with ⟨hS1, HF⟩ | ⟨hS1, HF⟩
          · go_wp2_with fail
            refine (l01Sum_any _ _ _ ((xs.take (j + 1)).drop (j + 1 - k)) w (by simp [HN.out]; omega) (by omega) (bit_big (sub_mem hb.out)) (Rd_sub0 HC.out _ _ (by rw [HN.out]; omega) (by omega))).mono ?_
            rintro en w1 ⟨rfl, rfl⟩
            rw [← HS.out]
            go_wp2
            go_ret
            exact ⟨by rw [HF.out]; rfl, rfl⟩
          · go_wp2_with fail
            refine (l01Sum_any _ _ _ ((xs.take (j + 1)).drop (j + 1 - k)) w (by simp [HN.out]; omega) (by omega) (bit_big (sub_mem hb.out)) (Rd_sub0 HC.out _ _ (by rw [HN.out]; omega) (by omega))).mono ?_
            rintro en w1 ⟨rfl, rfl⟩
            rw [← HS.out]
            go_wp2
            go_round
            case rel => exact ⟨j + 1, by omega, by go_num, HF⟩
            case measure => simp [intOf]; omega
        · have hlo : 0 ≤ (j : Int) + 1 - k := by omega
          have HT : Hid (((j : Int) + 1 - k).toNat = j + 1 - k) := by show _ = _; omega
          rcases fin with ⟨hS1, HF⟩ | ⟨hS1, HF⟩
          · go_wp2_with fail
            all_goals (try rw [HT.out])
            all_goals refine (l01Sum_any _ _ _ ((xs.take (j + 1)).drop (j + 1 - k)) w (by simp [HN.out]; omega) (by omega) (bit_big (sub_mem hb.out)) (by first | exact Rd_sub HC.out _ _ (by rw [HN.out]; omega) | exact Rd_sub0 HC.out _ _ (by rw [HN.out]; omega) (by omega))).mono ?_
            all_goals (rintro en w1 ⟨rfl, rfl⟩; rw [← HS.out]; go_wp2; go_ret; exact ⟨by rw [HF.out]; rfl, rfl⟩)
          · go_wp2_with fail
            all_goals (try rw [HT.out])
            all_goals refine (l01Sum_any _ _ _ ((xs.take (j + 1)).drop (j + 1 - k)) w (by simp [HN.out]; omega) (by omega) (bit_big (sub_mem hb.out)) (by first | exact Rd_sub HC.out _ _ (by rw [HN.out]; omega) | exact Rd_sub0 HC.out _ _ (by rw [HN.out]; omega) (by omega))).mono ?_
            all_goals (rintro en w1 ⟨rfl, rfl⟩; rw [← HS.out]; go_wp2; go_round)
            all_goals first | exact ⟨j + 1, by omega, by go_num, HF⟩ | (simp [intOf]; omega)
      · obtain rfl : j = n := by omega
        have HE := Lib.hid (conf_miss (xs := xs) (m := m) (k := k) (by rw [HN.out]; exact HJ.out))
        go_wp2
        go_ret
        exact ⟨by rw [HE.out]; rfl, rfl⟩
end Go.Proofs.Ytoaldcibmcmfdaa
