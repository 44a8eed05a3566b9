/- walks: patterns of bits -/
import Derived.Test.YtoaldcibmcmfdaaPlainP
import Derived.Test.YtoaldcibmcmfdaaWL
import Derived.Test.YtoaldcibmcmfdaaW5
import Derived.Test.YtoaldcibmcmfdaaSrc
import Derived.Laws.BitsLemmas
import Derived.Outline
set_option linter.unusedVariables false
set_option linter.unusedSimpArgs false
namespace Go.Proofs.Ytoaldcibmcmfdaa
open Go.RowKit

theorem i64_and1 (n : Int) : Go.bits .and .i64 n 1 = n % 2 := by
  have h1 : (BitVec.ofInt 64 1).toNat = 2 ^ 1 - 1 := by decide
  have key : (BitVec.ofInt 64 n &&& BitVec.ofInt 64 1).toNat = (n % ((2 ^ 64 : Nat) : Int)).toNat % 2 ^ 1 := by
    rw [BitVec.toNat_and, BitVec.toNat_ofInt, h1, Nat.and_two_pow_sub_one_eq_mod]
  show IntKind.i64.wrap ((BitVec.ofInt 64 n &&& BitVec.ofInt 64 1).toNat : Nat) = n % 2
  rw [key, IntKind.wrap_i64]
  omega
theorem bit_val (n x k : Nat) : Go.bits BinOp.and IntKind.i64 ((x : Int) / 2 ^ (n - 1 - k)) 1 = bit n x k := by
  rw [i64_and1]; unfold bit; norm_cast
set_option maxHeartbeats 2000000 in
theorem bitsOf_any (n x : Nat) (w : World) (hn : n ≤ 12) (hx : x < 4096) :
    Calls Try.prog 71 #[.int .i64 x, .int .i64 n] w fun en w9 => en = .returned (.slice (some ⟨w.heap.size, 0, none⟩) n n) ∧ w.heap.size + 1 ≤ w9.heap.size ∧ Cells w9 w.heap.size 0 (bits n x) ∧ Below w.heap.size w w9 := by
  have hmk := mk_ints n (by omega)
  have HN : Hid ((bits n x).length = n) := bits_len n x
  have HS : Hid (Cells (w.alloc (.cells (zeros n) 2)) w.heap.size 0 (part (bits n x) 0)) := by
    show Cells _ _ _ _
    rw [part_zero, HN.out]; exact zeros_cells w 2 n
  go_enter Try.func71, Try.ntmps71
  go_wp2
  go_loopw [11] (fun i wr => ∃ k : Nat, k ≤ n ∧ i = .int .i64 (k : Int) ∧ Hid (Cells wr w.heap.size 0 (part (bits n x) k)) ∧ w.heap.size + 1 ≤ wr.heap.size ∧ Below w.heap.size w wr) (fun i _ => n - (intOf i).toNat)
  case atStart => exact ⟨0, Nat.zero_le _, rfl, HS, by simp, by go_grown⟩
  case round =>
    obtain ⟨k, hk, rfl, HK, hsz, hbel⟩ := hrel
    by_cases hlt : k < n
    · have hl : k < (part (bits n x) k).length := by rw [part_len _ k (by rw [HN.out]; omega), HN.out]; exact hlt
      have hd := HK.out.1 k hl
      have hf := HK.out.2 k hl
      simp only [Nat.zero_add] at hd hf
      obtain ⟨y, hy⟩ : ∃ y, y = (part (bits n x) k).getD k 0 := ⟨_, rfl⟩
      rw [← hy] at hd
      clear hy
      have hi0 : (0 : Int) ≤ k := by omega
      have hi1 : (k : Int) < n := by omega
      have hi2 : (0 : Int) ≤ n - 1 - k := by omega
      have HK2 : Hid (Cells (wr.setCell ⟨w.heap.size, k, none⟩ (.int .i64 (Go.bits BinOp.and IntKind.i64 ((x : Int) / 2 ^ (n - 1 - k)) 1))) w.heap.size 0 (part (bits n x) (k + 1))) := by
        show Cells _ _ _ _
        have h2 := HK.out.put k (bit n x k) hl
        rw [Nat.zero_add, ← bits_at hlt, part_set _ k (by rw [HN.out]; exact hlt), bits_at hlt] at h2
        rw [bit_val]; exact h2
      clear hl
      go_wp2
      go_roundw
      case rel => exact ⟨k + 1, by omega, by go_num, HK2, by simpa [World.setCell] using hsz, hbel.setCell (Nat.le_refl _) _⟩
      case measure => simp [intOf]; omega
    · obtain rfl : k = n := by omega
      go_wp2
      go_ret
      exact ⟨rfl, hsz, by have h2 := HK.out; rwa [part_all _ HN.out] at h2, hbel⟩

set_option maxHeartbeats 1000000 in
theorem cases_any (A : Option Addr) (n c : Nat) (a : Int) (xs : List Int) (w : World) (hn : xs.length = n) (hm : n ≤ 12) (h0 : 0 ≤ a) (h1 : a ≤ 16) (hr : Rd w A xs) :
    Calls Try.prog 60 #[.slice A n c, .int .i64 a] w fun en w9 => en = .returned (.int .i64 (casesOf a xs)) ∧ w = w9 := by
  rcases hr with rfl | ⟨b, off, rfl, hc⟩
  · obtain rfl : n = 0 := by simpa using hn.symm
    go_enter Try.func60, Try.ntmps60
    go_wp2
    refine wp_loop_rounds 1 ?_
    rw [rounds_succ]
    go_wp2
    go_ret
    exact ⟨rfl, rfl⟩
  · have HC := Lib.hid hc; clear hc
    have HN := Lib.hid hn; clear hn
    go_enter Try.func60, Try.ntmps60
    go_wp2
    go_loop [5, 10] (fun o i => ∃ k : Nat, k ≤ n ∧ i = .int .i64 (k : Int) ∧ o = .int .i64 (casesOf a (xs.take k))) (fun _ i => n - (intOf i).toNat)
    case atStart => exact ⟨0, Nat.zero_le _, rfl, rfl⟩
    case round =>
      obtain ⟨k, hk, rfl, rfl⟩ := hrel
      have hb := casesOf_bd h0 h1 (xs.take k)
      have hl : (xs.take k).length ≤ 12 := by simp; omega
      have hp := p16_le (xs.take k).length hl
      by_cases hlt : k < n
      · have hck := HC.out k (by rw [HN.out]; exact hlt)
        have HT := Lib.hid (casesOf_snoc (a := a) (p := xs) (k := k) (by rw [HN.out]; exact hlt))
        generalize casesOf a (xs.take k) = v at hb HT ⊢
        have hv : v ≤ 281474976710656 := by omega
        have m1 := mul16 h0 h1 hb.1 hv
        have m2 := mul16 (a := 16 - a) (by omega) (by omega) hb.1 hv
        rw [Int.mul_comm] at m1 m2
        clear hp hb
        obtain ⟨x, hx⟩ : ∃ x, x = xs.getD k 0 := ⟨_, rfl⟩
        rw [← hx] at hck
        have HX := Lib.hid hx; clear hx
        by_cases h1x : x = 1
        · have HW : Hid (casesOf a (xs.take (k + 1)) = v * a) := by show _ = _; rw [HT.out, ← HX.out, h1x]; rfl
          have hx1 : (x == 1) = true := by simpa using h1x
          clear h1x
          go_wp2
          go_round
          case rel => exact ⟨k + 1, by omega, by go_num, by rw [HW.out]⟩
          case measure => simp [intOf]; omega
        · have HW : Hid (casesOf a (xs.take (k + 1)) = v * (16 - a)) := by show _ = _; rw [HT.out, ← HX.out]; unfold wgt; rw [if_neg h1x]
          have hx1 : (x == 1) = false := by simpa using h1x
          clear h1x
          go_wp2
          go_round
          case rel => exact ⟨k + 1, by omega, by go_num, by rw [HW.out]⟩
          case measure => simp [intOf]; omega
      · obtain rfl : k = n := by omega
        have HA2 : Hid (xs.take k = xs) := List.take_of_length_le (by rw [HN.out]; omega)
        go_wp2
        go_ret
        refine ⟨?_, rfl⟩
        rw [HA2.out]; rfl

/-- eachPattern: what the closure keeps for each pattern holds at the end -/
theorem eachT_any (n : Nat) (c1 c2 : Nat) (I : Nat → World → Prop) (w : World) (hn : n ≤ 12) (h0 : I 0 w)
    (hstep : ∀ (x : Nat) (wr w2 : World) (g : Nat), x < 2 ^ n → I x wr → Below wr.heap.size wr w2 → g = wr.heap.size → Cells w2 g 0 (bits n x) →
      Calls Try.prog 68 #[.slice (some ⟨g, 0, none⟩) n n, .pointer (some ⟨c1, 0, none⟩), .pointer (some ⟨c2, 0, none⟩)] w2 fun en w9 => en = .returned (.tuple #[]) ∧ I (x + 1) w9) :
    Calls Try.prog 53 #[.int .i64 n, .func (.func 68) #[] #[.pointer (some ⟨c1, 0, none⟩), .pointer (some ⟨c2, 0, none⟩)]] w fun en w9 => en = .returned (.tuple #[]) ∧ I (2 ^ n) w9 := by
  have HST := Lib.hid hstep; clear hstep
  have H0 := Lib.hid h0; clear h0
  have hp : (1 : Int) ≤ (2 : Int) ^ n ∧ (2 : Int) ^ n ≤ 4096 := pow2_le hn
  have HP : Hid (((2 ^ n : Nat) : Int) = (2 : Int) ^ n) := by show _ = _; norm_cast
  obtain ⟨t, ht⟩ : ∃ t : Nat, t = 2 ^ n := ⟨_, rfl⟩
  have HT := Lib.hid ht; clear ht
  have hw : wrap64 ((2 : Int) ^ n) = (2 : Int) ^ n := IntWalk.wrap64_in _ (by omega)
  have ht2 : (2 : Int) ^ n = (t : Int) := by rw [HT.out, ← HP.out]
  rw [ht2] at hp hw
  go_enter Try.func53, Try.ntmps53
  go_wp2
  go_loopw [7] (fun i wr => ∃ x : Nat, x ≤ t ∧ i = .int .i64 (x : Int) ∧ Hid (I x wr)) (fun i _ => t - (intOf i).toNat)
  case atStart => exact ⟨0, Nat.zero_le _, rfl, H0⟩
  case round =>
    obtain ⟨x, hx, rfl, HI⟩ := hrel
    by_cases hlt : x < t
    · have hi1 : (x : Int) < t := by omega
      go_wp2_with fail
      refine (bitsOf_any n x _ hn (by omega)).mono ?_
      rintro en w2 ⟨rfl, hs2, hc2, hb2⟩
      go_wp2_with fail
      refine (HST.out x wr w2 _ (by rw [← HT.out]; exact hlt) HI.out hb2 rfl hc2).mono ?_
      rintro en w3 ⟨rfl, hi3⟩
      have HI3 := Lib.hid hi3; clear hi3
      go_wp2
      go_roundw
      case rel => exact ⟨x + 1, by omega, by go_num, HI3⟩
      case measure => simp [intOf]; omega
    · obtain rfl : x = t := by omega
      have HE : Hid (I (2 ^ n) wr) := by show I _ _; rw [← HT.out]; exact HI.out
      go_wp2
      first | exact ⟨rfl, HE.out⟩ | (go_end0; exact ⟨rfl, HE.out⟩)

/-- eachPattern: what the closure keeps for each pattern holds at the end -/
theorem eachP_any (n : Nat) (c1 c2 c3 : Nat) (I : Nat → World → Prop) (w : World) (hn : n ≤ 12) (h0 : I 0 w)
    (hstep : ∀ (x : Nat) (wr w2 : World) (g : Nat), x < 2 ^ n → I x wr → Below wr.heap.size wr w2 → g = wr.heap.size → Cells w2 g 0 (bits n x) →
      Calls Try.prog 54 #[.slice (some ⟨g, 0, none⟩) n n, .pointer (some ⟨c1, 0, none⟩), .pointer (some ⟨c2, 0, none⟩), .pointer (some ⟨c3, 0, none⟩)] w2 fun en w9 => en = .returned (.tuple #[]) ∧ I (x + 1) w9) :
    Calls Try.prog 53 #[.int .i64 n, .func (.func 54) #[] #[.pointer (some ⟨c1, 0, none⟩), .pointer (some ⟨c2, 0, none⟩), .pointer (some ⟨c3, 0, none⟩)]] w fun en w9 => en = .returned (.tuple #[]) ∧ I (2 ^ n) w9 := by
  have HST := Lib.hid hstep; clear hstep
  have H0 := Lib.hid h0; clear h0
  have hp : (1 : Int) ≤ (2 : Int) ^ n ∧ (2 : Int) ^ n ≤ 4096 := pow2_le hn
  have HP : Hid (((2 ^ n : Nat) : Int) = (2 : Int) ^ n) := by show _ = _; norm_cast
  obtain ⟨t, ht⟩ : ∃ t : Nat, t = 2 ^ n := ⟨_, rfl⟩
  have HT := Lib.hid ht; clear ht
  have hw : wrap64 ((2 : Int) ^ n) = (2 : Int) ^ n := IntWalk.wrap64_in _ (by omega)
  have ht2 : (2 : Int) ^ n = (t : Int) := by rw [HT.out, ← HP.out]
  rw [ht2] at hp hw
  go_enter Try.func53, Try.ntmps53
  go_wp2
  go_loopw [7] (fun i wr => ∃ x : Nat, x ≤ t ∧ i = .int .i64 (x : Int) ∧ Hid (I x wr)) (fun i _ => t - (intOf i).toNat)
  case atStart => exact ⟨0, Nat.zero_le _, rfl, H0⟩
  case round =>
    obtain ⟨x, hx, rfl, HI⟩ := hrel
    by_cases hlt : x < t
    · have hi1 : (x : Int) < t := by omega
      go_wp2_with fail
      refine (bitsOf_any n x _ hn (by omega)).mono ?_
      rintro en w2 ⟨rfl, hs2, hc2, hb2⟩
      go_wp2_with fail
      refine (HST.out x wr w2 _ (by rw [← HT.out]; exact hlt) HI.out hb2 rfl hc2).mono ?_
      rintro en w3 ⟨rfl, hi3⟩
      have HI3 := Lib.hid hi3; clear hi3
      go_wp2
      go_roundw
      case rel => exact ⟨x + 1, by omega, by go_num, HI3⟩
      case measure => simp [intOf]; omega
    · obtain rfl : x = t := by omega
      have HE : Hid (I (2 ^ n) wr) := by show I _ _; rw [← HT.out]; exact HI.out
      go_wp2
      first | exact ⟨rfl, HE.out⟩ | (go_end0; exact ⟨rfl, HE.out⟩)

/-- eachPattern: what the closure keeps for each pattern holds at the end -/
theorem eachC_any (n : Nat) (c1 c2 c3 c4 : Nat) (I : Nat → World → Prop) (w : World) (hn : n ≤ 12) (h0 : I 0 w)
    (hstep : ∀ (x : Nat) (wr w2 : World) (g : Nat), x < 2 ^ n → I x wr → Below wr.heap.size wr w2 → g = wr.heap.size → Cells w2 g 0 (bits n x) →
      Calls Try.prog 59 #[.slice (some ⟨g, 0, none⟩) n n, .pointer (some ⟨c1, 0, none⟩), .pointer (some ⟨c2, 0, none⟩), .pointer (some ⟨c3, 0, none⟩), .pointer (some ⟨c4, 0, none⟩)] w2 fun en w9 => en = .returned (.tuple #[]) ∧ I (x + 1) w9) :
    Calls Try.prog 53 #[.int .i64 n, .func (.func 59) #[] #[.pointer (some ⟨c1, 0, none⟩), .pointer (some ⟨c2, 0, none⟩), .pointer (some ⟨c3, 0, none⟩), .pointer (some ⟨c4, 0, none⟩)]] w fun en w9 => en = .returned (.tuple #[]) ∧ I (2 ^ n) w9 := by
  have HST := Lib.hid hstep; clear hstep
  have H0 := Lib.hid h0; clear h0
  have hp : (1 : Int) ≤ (2 : Int) ^ n ∧ (2 : Int) ^ n ≤ 4096 := pow2_le hn
  have HP : Hid (((2 ^ n : Nat) : Int) = (2 : Int) ^ n) := by show _ = _; norm_cast
  obtain ⟨t, ht⟩ : ∃ t : Nat, t = 2 ^ n := ⟨_, rfl⟩
  have HT := Lib.hid ht; clear ht
  have hw : wrap64 ((2 : Int) ^ n) = (2 : Int) ^ n := IntWalk.wrap64_in _ (by omega)
  have ht2 : (2 : Int) ^ n = (t : Int) := by rw [HT.out, ← HP.out]
  rw [ht2] at hp hw
  go_enter Try.func53, Try.ntmps53
  go_wp2
  go_loopw [7] (fun i wr => ∃ x : Nat, x ≤ t ∧ i = .int .i64 (x : Int) ∧ Hid (I x wr)) (fun i _ => t - (intOf i).toNat)
  case atStart => exact ⟨0, Nat.zero_le _, rfl, H0⟩
  case round =>
    obtain ⟨x, hx, rfl, HI⟩ := hrel
    by_cases hlt : x < t
    · have hi1 : (x : Int) < t := by omega
      go_wp2_with fail
      refine (bitsOf_any n x _ hn (by omega)).mono ?_
      rintro en w2 ⟨rfl, hs2, hc2, hb2⟩
      go_wp2_with fail
      refine (HST.out x wr w2 _ (by rw [← HT.out]; exact hlt) HI.out hb2 rfl hc2).mono ?_
      rintro en w3 ⟨rfl, hi3⟩
      have HI3 := Lib.hid hi3; clear hi3
      go_wp2
      go_roundw
      case rel => exact ⟨x + 1, by omega, by go_num, HI3⟩
      case measure => simp [intOf]; omega
    · obtain rfl : x = t := by omega
      have HE : Hid (I (2 ^ n) wr) := by show I _ _; rw [← HT.out]; exact HI.out
      go_wp2
      first | exact ⟨rfl, HE.out⟩ | (go_end0; exact ⟨rfl, HE.out⟩)
end Go.Proofs.Ytoaldcibmcmfdaa
