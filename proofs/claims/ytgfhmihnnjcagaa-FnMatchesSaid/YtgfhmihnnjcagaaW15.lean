/- walks: BestCode -/
import Derived.Test.YtgfhmihnnjcagaaW14
import Derived.Test.YtgfhmihnnjcagaaWL
import Derived.Test.YtgfhmihnnjcagaaW4
import Derived.Laws.BitsLemmas
set_option linter.unusedVariables false
set_option linter.unusedSimpArgs false
namespace Go.Proofs.Ytgfhmihnnjcagaa
open Go.RowKit

/-- the bits of x, the most significant of n first -/
def bit (n x i : Nat) : Int := ((x / 2 ^ (n - 1 - i) % 2 : Nat) : Int)
def bits (n x : Nat) : List Int := (List.range n).map (bit n x)
theorem bits_len (n x : Nat) : (bits n x).length = n := by simp [bits]
theorem bits_at {n x i : Nat} (h : i < n) : (bits n x).getD i 0 = bit n x i := by simp [bits, h]
theorem bit_01 (n x i : Nat) : 0 ≤ bit n x i ∧ bit n x i ≤ 1 := by unfold bit; omega
theorem bits_01 (n x : Nat) : Bits (bits n x) := fun b hb => by
  obtain ⟨i, _, rfl⟩ := List.mem_map.1 hb
  exact bit_01 n x i
theorem and1 (n : Int) : Go.bits .and .i64 n 1 = n % 2 := by
  have h1 : (BitVec.ofInt 64 1).toNat = 2 ^ 1 - 1 := by decide
  have key : (BitVec.ofInt 64 n &&& BitVec.ofInt 64 1).toNat = (n % ((2 ^ 64 : Nat) : Int)).toNat % 2 ^ 1 := by
    rw [BitVec.toNat_and, BitVec.toNat_ofInt, h1, Nat.and_two_pow_sub_one_eq_mod]
  show IntKind.i64.wrap ((BitVec.ofInt 64 n &&& BitVec.ofInt 64 1).toNat : Nat) = n % 2
  rw [key, IntKind.wrap_i64]
  omega
theorem bit_val (n x k : Nat) : Go.bits BinOp.and IntKind.i64 ((x : Int) / 2 ^ (n - 1 - k)) 1 = bit n x k := by
  rw [and1]; unfold bit; norm_cast
set_option maxHeartbeats 2000000 in
theorem bitsOf_any (n x : Nat) (w : World) (hn : n ≤ 12) (hx : x < 4096) :
    Calls Try.prog 109 #[.int .i64 x, .int .i64 n] w fun en w9 => en = .returned (.slice (some ⟨w.heap.size, 0, none⟩) n n) ∧ w.heap.size + 1 ≤ w9.heap.size ∧ Cells w9 w.heap.size 0 (bits n x) ∧ Below w.heap.size w w9 := by
  have hmk := mk_ints n (by omega)
  have HN : Hid ((bits n x).length = n) := bits_len n x
  have HS : Hid (Cells (w.alloc (.cells (zeros n) 2)) w.heap.size 0 (part (bits n x) 0)) := by
    show Cells _ _ _ _
    rw [part_zero, HN.out]; exact zeros_cells w 2 n
  go_enter Try.func109, Try.ntmps109
  go_wp2
  go_loopw [11] (fun i wr => ∃ k : Nat, k ≤ n ∧ i = .int .i64 (k : Int) ∧ Hid (Cells wr w.heap.size 0 (part (bits n x) k)) ∧ w.heap.size + 1 ≤ wr.heap.size ∧ Below w.heap.size w wr) (fun i _ => n - (intOf i).toNat)
  case atStart => exact ⟨0, Nat.zero_le _, rfl, HS, by simp, by go_grown⟩
  case round =>
    obtain ⟨k, hk, rfl, HK, hsz, hbel⟩ := hrel
    by_cases hlt : k < n
    · have hl : k < (part (bits n x) k).length := by rw [part_len _ k (by rw [HN.out]; omega), HN.out]; exact hlt
      have hd := HK.out.1 k hl
      have hf := HK.out.2 k hl
      simp only [Nat.zero_add] at hd hf
      obtain ⟨y, hy⟩ : ∃ y, y = (part (bits n x) k).getD k 0 := ⟨_, rfl⟩
      rw [← hy] at hd
      clear hy
      have hi0 : (0 : Int) ≤ k := by omega
      have hi1 : (k : Int) < n := by omega
      have hi2 : (0 : Int) ≤ n - 1 - k := by omega
      have HK2 : Hid (Cells (wr.setCell ⟨w.heap.size, k, none⟩ (.int .i64 (Go.bits BinOp.and IntKind.i64 ((x : Int) / 2 ^ (n - 1 - k)) 1))) w.heap.size 0 (part (bits n x) (k + 1))) := by
        show Cells _ _ _ _
        have h2 := HK.out.put k (bit n x k) hl
        rw [Nat.zero_add, ← bits_at hlt, part_set _ k (by rw [HN.out]; exact hlt), bits_at hlt] at h2
        rw [bit_val]; exact h2
      clear hl
      go_wp2
      go_roundw
      case rel => exact ⟨k + 1, by omega, by go_num, HK2, by simpa [World.setCell] using hsz, hbel.setCell (Nat.le_refl _) _⟩
      case measure => simp [intOf]; omega
    · obtain rfl : k = n := by omega
      go_wp2
      go_ret
      exact ⟨rfl, hsz, by have h2 := HK.out; rwa [part_all _ HN.out] at h2, hbel⟩
/-- the sidelobe of a code's pulse -/
def sdOf (n x : Nat) : Int := side (pl (bits n x) 1 1)
def bcTo (n : Nat) : Nat → List Int × Int
  | 0 => ([], -1)
  | x + 1 => if (bcTo n x).2 < 0 ∨ sdOf n x < (bcTo n x).2 then (bits n x, sdOf n x) else bcTo n x
theorem mem_plTo {bs : List Int} {wd : Nat} {am : Int} {i : Nat} {x : Int} (h : x ∈ plTo bs wd am i) : ∃ k, x = (2 * bs.getD k 0 - 1) * am := by
  induction i with
  | zero => cases h
  | succ i ih =>
    rcases List.mem_append.1 h with h | h
    · exact ih h
    · exact ⟨i, List.eq_of_mem_replicate h⟩
theorem pl_sig {bs : List Int} {wd : Nat} {am : Int} (h : Bits bs) (ha : 1 ≤ am ∧ am ≤ 1000) : Sig (pl bs wd am) := fun x hx => by
  obtain ⟨k, rfl⟩ := mem_plTo hx
  have := h.at k
  have := mul_bd (a := 2 * bs.getD k 0 - 1) (b := am) (A := 1) (B := 1000) (by omega) (by omega)
  omega
theorem sdOf_bd {n x : Nat} (hn : n ≤ 10) : 0 ≤ sdOf n x ∧ sdOf n x ≤ 400000000 := sideTo_bd (pl_sig (bits_01 n x) (by omega)) (by rw [pl_len, bits_len]; omega) _
theorem bcTo_bd {n x : Nat} (hn : n ≤ 10) : -1 ≤ (bcTo n x).2 ∧ (bcTo n x).2 ≤ 400000000 := by
  induction x with
  | zero => simp [bcTo]
  | succ x ih =>
    have := sdOf_bd (n := n) (x := x) hn
    simp only [bcTo]; split
    · exact ⟨by omega, by omega⟩
    · exact ih
theorem bcTo_len {n x : Nat} : (bcTo n x).1.length ≤ n := by
  induction x with
  | zero => simp [bcTo]
  | succ x ih =>
    simp only [bcTo]; split
    · exact Nat.le_of_eq (bits_len n x)
    · exact ih
theorem bc_up {n x : Nat} (h : (bcTo n x).2 < 0 ∨ sdOf n x < (bcTo n x).2) : bcTo n (x + 1) = (bits n x, sdOf n x) := by simp only [bcTo]; rw [if_pos h]
theorem bc_stay {n x : Nat} (h : ¬ ((bcTo n x).2 < 0 ∨ sdOf n x < (bcTo n x).2)) : bcTo n (x + 1) = bcTo n x := by simp only [bcTo]; rw [if_neg h]
def bcVal (n : Int) : List Int := if inR n 1 10 then (bcTo n.toNat (2 ^ n.toNat)).1 else []
def bcCode (n : Int) : Int := if inR n 1 10 then 0 else 2
theorem bcVal_len {n : Int} : (bcVal n).length ≤ 1048576 := by
  unfold bcVal; split
  · rename_i h
    have := inR_iff.1 h
    have := bcTo_len (n := n.toNat) (x := 2 ^ n.toNat); omega
  · simp
/-- a value that holds a list of one's own -/
def OwnQ (w : World) (B : Nat) (v : Value) (ys : List Int) : Prop := ∃ A c, v = .slice A ys.length c ∧ OwnR w B A ys.length c ys
theorem OwnQ.below {w w2 : World} {B : Nat} {v : Value} {ys : List Int} (h : OwnQ w B v ys) (hb : Below w.heap.size w w2) : OwnQ w2 B v ys := by
  obtain ⟨A, c, e, hR⟩ := h; exact ⟨A, c, e, hR.below hb⟩
theorem OwnQ.none (w : World) (B : Nat) : OwnQ w B (.slice none 0 0) [] := ⟨Option.none, 0, rfl, rfl, Nat.le_refl _, .inl ⟨rfl, rfl⟩⟩
theorem OwnQ.of_cells {w : World} {B g n : Nat} {ys : List Int} (hn : ys.length = n) (hB : B ≤ g) (hg : g < w.heap.size) (h : Cells w g 0 ys) : OwnQ w B (.slice (some ⟨g, 0, Option.none⟩) n n) ys :=
  ⟨some ⟨g, 0, Option.none⟩, n, by rw [hn], rfl, by omega, .inr ⟨g, rfl, hB, hg, h⟩⟩
theorem pow2_le {n : Nat} (hn : n ≤ 12) : (1 : Int) ≤ (2 : Int) ^ n ∧ (2 : Int) ^ n ≤ 4096 := by
  have h1 : 1 ≤ 2 ^ n := Nat.one_le_two_pow
  have h2 : 2 ^ n ≤ 2 ^ 12 := Nat.pow_le_pow_right (by decide) hn
  have e : ((2 ^ n : Nat) : Int) = (2 : Int) ^ n := by norm_cast
  omega
set_option maxHeartbeats 4000000 in
theorem iBest_any (n : Int) (w : World) :
    Calls Try.prog 52 #[.int .i64 n] w fun en w9 => ∃ A9 c9, en = .returned (.tuple #[.slice A9 (bcVal n).length c9, .int .i64 (bcCode n)]) ∧ OwnR w9 w.heap.size A9 (bcVal n).length c9 (bcVal n) ∧ Below w.heap.size w w9 := by
  rcases Bool.eq_false_or_eq_true (inR n 1 10) with g1 | g1
  · have h1 := inR_iff.1 g1
    obtain ⟨m, rfl⟩ : ∃ m : Nat, n = m := ⟨n.toNat, by omega⟩
    have hp : (1 : Int) ≤ (2 : Int) ^ m ∧ (2 : Int) ^ m ≤ 4096 := pow2_le (by omega)
    have HP : Hid (((2 ^ m : Nat) : Int) = (2 : Int) ^ m) := by show _ = _; norm_cast
    obtain ⟨t, ht⟩ : ∃ t : Nat, t = 2 ^ m := ⟨_, rfl⟩
    have HV : Hid (bcVal (m : Int) = (bcTo m t).1 ∧ bcCode (m : Int) = 0) := by show _ ∧ _; rw [ht]; simp [bcVal, bcCode, g1]
    have HT := Lib.hid ht; clear ht
    have hw : wrap64 ((2 : Int) ^ m) = (2 : Int) ^ m := IntWalk.wrap64_in _ (by omega)
    have ht2 : (2 : Int) ^ m = (t : Int) := by rw [HT.out, ← HP.out]
    rw [ht2] at hp hw
    go_enter Try.func52, Try.ntmps52
    go_wp2_with (first | (go_at_call 79; refine (within_any _ _ _ _).mono ?_; rintro en w1 ⟨rfl, rfl⟩))
    go_loopw [4, 5, 14] (fun v s i wr => ∃ x : Nat, x ≤ t ∧ i = .int .i64 (x : Int) ∧ s = .int .i64 (bcTo m x).2 ∧ Hid (OwnQ wr w.heap.size v (bcTo m x).1) ∧ Below w.heap.size w wr) (fun _ _ i _ => t - (intOf i).toNat)
    case atStart => exact ⟨0, Nat.zero_le _, rfl, rfl, OwnQ.none _ _, by go_grown⟩
    case round =>
      obtain ⟨x, hx, rfl, rfl, HO, hbel⟩ := hrel
      by_cases hlt : x < t
      · have hlb := bcTo_bd (n := m) (x := x) (by omega)
        have hsb := sdOf_bd (n := m) (x := x) (by omega)
        have HU := Lib.hid (bc_up (n := m) (x := x))
        have HS := Lib.hid (bc_stay (n := m) (x := x))
        obtain ⟨l, hl⟩ : ∃ l, l = (bcTo m x).2 := ⟨_, rfl⟩
        have hi1 : (x : Int) < t := by omega
        have HSG : Hid (Sig (pl (bits m x) 1 1)) := pl_sig (bits_01 m x) (by omega)
        have HLN : Hid ((pl (bits m x) 1 1).length = m) := by show _ = _; rw [pl_len, bits_len]; omega
        have HSD : Hid (side (pl (bits m x) 1 1) = sdOf m x) := rfl
        have HBB : Hid (Bits (bits m x)) := bits_01 m x
        rw [← hl] at hlb
        have HL := Lib.hid hl; clear hl
        go_wp2_with fail
        refine (bitsOf_any m x _ (by omega) (by omega)).mono ?_
        rintro en w2 ⟨rfl, hs2, hc2, hb2⟩
        have HB2 := Lib.hid (hbel.trans (hb2.mono hbel.size))
        have HO2 := Lib.hid (HO.out.below hb2)
        have HC2 := Lib.hid hc2
        have hz := HB2.out.size
        have hz2 := hbel.size
        clear hc2 hb2
        go_wp2_with fail
        refine (iPulse_any _ m m (bits m x) 1 1 _ (bits_len m x) (by omega) (by omega) (by omega) HBB (by omega) HC2.out.rd).mono ?_
        rintro en w3 ⟨A9, c9, rfl, hR, hb3⟩
        have HB3 := Lib.hid (HB2.out.trans (hb3.mono hz))
        have HO3 := Lib.hid (HO2.out.below hb3)
        have HC3 := Lib.hid (HC2.out.below hb3)
        have hz3 := hb3.size
        have HRD := Lib.hid hR.rd
        clear hb3 hR
        go_wp2_with fail
        refine (iSide_any A9 (pl (bits m x) 1 1).length c9 (pl (bits m x) 1 1) _ rfl (by rw [HLN.out]; omega) HSG HRD.out).mono ?_
        rintro en w4 ⟨rfl, mq, rfl⟩
        rw [HSD.out]
        have HQ : Hid (OwnQ (w3.drewN mq) w.heap.size (.slice (some ⟨wr.heap.size, 0, none⟩) m m) (bits m x)) := OwnQ.of_cells (bits_len m x) hz2 (Nat.lt_of_succ_le (Nat.le_trans hs2 hz3)) HC3.out
        have HO4 : Hid (OwnQ (w3.drewN mq) w.heap.size u4 (bcTo m x).1) := HO3.out
        have HB4 : Hid (Below w.heap.size w (w3.drewN mq)) := below_drewN HB3.out mq
        obtain ⟨s, hs⟩ : ∃ s, s = sdOf m x := ⟨_, rfl⟩
        rw [← hs] at hsb ⊢
        have HSS := Lib.hid hs; clear hs
        have fin1 : (l < 0 ∨ s < l) → Hid (s = (bcTo m (x + 1)).2) ∧ Hid (OwnQ (w3.drewN mq) w.heap.size (.slice (some ⟨wr.heap.size, 0, none⟩) m m) (bcTo m (x + 1)).1) := fun h => by
          have e := HU.out (by rw [← HL.out, ← HSS.out]; exact h)
          exact ⟨by show _ = _; rw [e, HSS.out], by show OwnQ _ _ _ _; rw [e]; exact HQ.out⟩
        have fin2 : ¬ (l < 0 ∨ s < l) → Hid (l = (bcTo m (x + 1)).2) ∧ Hid (OwnQ (w3.drewN mq) w.heap.size u4 (bcTo m (x + 1)).1) := fun h => by
          have e := HS.out (by rw [← HL.out, ← HSS.out]; exact h)
          exact ⟨by show _ = _; rw [e, HL.out], by show OwnQ _ _ _ _; rw [e]; exact HO4.out⟩
        have HLR : Hid ((bcTo m x).2 = l) := HL.out.symm
        rw [HLR.out]
        rcases Int.lt_or_le l 0 with c1 | c1
        · obtain ⟨f1, f2⟩ := fin1 (.inl c1)
          clear fin1 fin2
          go_wp2
          go_roundw
          case rel => exact ⟨x + 1, by omega, by go_num, by rw [f1.out], f2, HB4.out⟩
          case measure => simp [intOf]; omega
        · rcases Int.lt_or_le s l with c2 | c2
          · obtain ⟨f1, f2⟩ := fin1 (.inr c2)
            clear fin1 fin2
            go_wp2
            go_roundw
            case rel => exact ⟨x + 1, by omega, by go_num, by rw [f1.out], f2, HB4.out⟩
            case measure => simp [intOf]; omega
          · obtain ⟨f1, f2⟩ := fin2 (by omega)
            clear fin1 fin2
            go_wp2
            go_roundw
            case rel => exact ⟨x + 1, by omega, by go_num, by rw [f1.out], f2, HB4.out⟩
            case measure => simp [intOf]; omega
      · obtain rfl : x = t := by omega
        obtain ⟨A9, c9, rfl, hR⟩ := HO.out
        have HR := Lib.hid hR; clear hR HO
        go_wp2
        go_ret2
        exact ⟨A9, c9, by rw [HV.out.1, HV.out.2]; rfl, by rw [HV.out.1]; exact HR.out, hbel⟩
  · have HV : Hid (bcVal n = [] ∧ bcCode n = 2) := by show _ ∧ _; simp [bcVal, bcCode, g1]
    go_enter Try.func52, Try.ntmps52
    go_wp2_with (first | (go_at_call 79; refine (within_any _ _ _ _).mono ?_; rintro en w1 ⟨rfl, rfl⟩))
    go_ret2
    exact ⟨none, 0, by rw [HV.out.1, HV.out.2]; rfl, by rw [HV.out.1]; exact ⟨rfl, Nat.le_refl _, .inl ⟨rfl, rfl⟩⟩, by go_grown⟩

theorem bits_take {n x q : Nat} (h : q < n) : (bits n x).take (n - q) = (bits n x).take (n - (q + 1)) ++ [Go.bits BinOp.and IntKind.i64 ((x : Int) / 2 ^ q) 1] := by
  have e := bit_val n x (n - (q + 1))
  rw [show n - 1 - (n - (q + 1)) = q by omega] at e
  rw [e, show n - q = (n - (q + 1)) + 1 by omega, take_snoc (by rw [bits_len]; omega), bits_at (by omega)]
set_option maxHeartbeats 4000000 in
theorem sBest_any (n : Int) (w : World) :
    Calls Try.prog 51 #[.int .i64 n] w fun en w9 => ∃ A9 c9, en = .returned (.tuple #[.slice A9 (bcVal n).length c9, .int .i64 (bcCode n)]) ∧ OwnR w9 w.heap.size A9 (bcVal n).length c9 (bcVal n) ∧ Below w.heap.size w w9 := by
  rcases Bool.eq_false_or_eq_true (inR n 1 10) with g1 | g1
  · have h1 := inR_iff.1 g1
    obtain ⟨m, rfl⟩ : ∃ m : Nat, n = m := ⟨n.toNat, by omega⟩
    have hp : (1 : Int) ≤ (2 : Int) ^ m ∧ (2 : Int) ^ m ≤ 4096 := pow2_le (by omega)
    have HP : Hid (((2 ^ m : Nat) : Int) = (2 : Int) ^ m) := by show _ = _; norm_cast
    obtain ⟨t, ht⟩ : ∃ t : Nat, t = 2 ^ m := ⟨_, rfl⟩
    have HV : Hid (bcVal (m : Int) = (bcTo m t).1 ∧ bcCode (m : Int) = 0) := by show _ ∧ _; rw [ht]; simp [bcVal, bcCode, g1]
    have HT := Lib.hid ht; clear ht
    have hw : wrap64 ((2 : Int) ^ m) = (2 : Int) ^ m := IntWalk.wrap64_in _ (by omega)
    have ht2 : (2 : Int) ^ m = (t : Int) := by rw [HT.out, ← HP.out]
    rw [ht2] at hp hw
    go_enter Try.func51, Try.ntmps51
    go_wp2_with (first | (go_at_call 74; refine (l01In_any _ _ _ _).mono ?_; rintro en w1 ⟨rfl, rfl⟩))
    go_loopw [4, 5, 6] (fun v s i wr => ∃ x : Nat, x ≤ t ∧ i = .int .i64 (x : Int) ∧ s = .int .i64 (bcTo m x).2 ∧ Hid (OwnQ wr w.heap.size v (bcTo m x).1) ∧ Below w.heap.size w wr) (fun _ _ i _ => t - (intOf i).toNat)
    case atStart => exact ⟨0, Nat.zero_le _, rfl, rfl, ⟨some ⟨w.heap.size, 0, none⟩, 0, rfl, rfl, Nat.le_refl _, .inr ⟨w.heap.size, rfl, Nat.le_refl _, by simp, Cells.nil _ _ _⟩⟩, by go_grown⟩
    case round =>
      obtain ⟨x, hx, rfl, rfl, HO, hbel⟩ := hrel
      obtain ⟨wo, rfl⟩ : ∃ wo : World, wo = wr := ⟨_, rfl⟩
      by_cases hlt : x < t
      · have hlb := bcTo_bd (n := m) (x := x) (by omega)
        have hsb := sdOf_bd (n := m) (x := x) (by omega)
        have HU := Lib.hid (bc_up (n := m) (x := x))
        have HS := Lib.hid (bc_stay (n := m) (x := x))
        obtain ⟨l, hl⟩ : ∃ l, l = (bcTo m x).2 := ⟨_, rfl⟩
        have hi1 : (x : Int) < t := by omega
        have HSG : Hid (Sig (pl (bits m x) 1 1)) := pl_sig (bits_01 m x) (by omega)
        have HLN : Hid ((pl (bits m x) 1 1).length = m) := by show _ = _; rw [pl_len, bits_len]; omega
        have HSD : Hid (side (pl (bits m x) 1 1) = sdOf m x) := rfl
        have HBB : Hid (Bits (bits m x)) := bits_01 m x
        have HBL : Hid ((bits m x).length = m) := bits_len m x
        rw [← hl] at hlb
        have HL := Lib.hid hl; clear hl
        have HLR : Hid ((bcTo m x).2 = l) := HL.out.symm
        rw [HLR.out]
        have hz0 := hbel.size
        go_wp2
        go_loopw [7, 8] (fun v i w4 => ∃ (q : Nat) (z : Int), q ≤ m ∧ i = .int .i64 z ∧ z = (q : Int) - 1 ∧ Hid (OwnV w4 wo.heap.size v ((bits m x).take (m - q))) ∧ Below wo.heap.size wo w4) (fun _ i _ => ((intOf i) + 1).toNat)
        case atStart => exact ⟨m, _, Nat.le_refl _, rfl, by omega, by show OwnV _ _ _ _; rw [Nat.sub_self, List.take_zero]; exact OwnV.empty _ _ (Nat.le_refl _), by go_grown⟩
        case round =>
          obtain ⟨q, z, hq, rfl, hz, HQ, hbq⟩ := hrel
          cases q with
          | succ q =>
            obtain rfl : z = q := by omega
            have HTK := Lib.hid (bits_take (n := m) (x := x) (q := q) (by omega))
            have HLL : Hid (((bits m x).take (m - (q + 1))).length = m - (q + 1)) := by show _ = _; rw [List.length_take, HBL.out]; omega
            have hi2 : (0 : Int) ≤ q := by omega
            clear hz
            go_wp2_with (at_builtin; refine app_int rfl _ _ rfl wo.heap.size _ ((bits m x).take (m - (q + 1))) rfl (OwnV.alloc HQ.out _) (Go.bits BinOp.and IntKind.i64 ((x : Int) / 2 ^ q) 1) _ rfl (cell_new1 _ _) (Nat.le_trans (Nat.le_of_eq HLL.out) (by omega)) (by have hsz := hbq.size; simp only [World.size_alloc]; omega) ?_; intro g cap w2 hown2 hb2)
            have HO3 : Hid (∀ L, L = ((bits m x).take (m - (q + 1))).length + 1 → OwnV w2 wo.heap.size (.slice (some ⟨g, 0, none⟩) L cap) ((bits m x).take (m - q))) := by
              show ∀ L, _
              intro L hL; rw [HTK.out, hL]; exact hown2
            have hB3 : Below wo.heap.size wo w2 := (Below.alloc hbq hbq.size _).trans hb2
            clear hown2 hb2
            go_roundw
            case rel => exact ⟨q, _, by omega, rfl, by omega, HO3.out _ (by simp), hB3⟩
            case measure => simp [intOf]
          | zero =>
            obtain rfl : z = -1 := by omega
            rw [Nat.sub_zero, List.take_of_length_le (Nat.le_of_eq (bits_len m x))] at HQ
            obtain ⟨A7, c7, rfl, hR7⟩ := HQ.out.R
            have HR7 := Lib.hid hR7
            clear hR7 HQ hz
            have HB2 := Lib.hid (hbel.trans (hbq.mono hz0))
            have HO2 := Lib.hid (HO.out.below hbq)
            have hz2 := hbq.size
            rw [HBL.out] at HR7
            rw [HBL.out]
            clear hbq
            go_wp2_with fail
            refine (sPulse_any _ m c7 (bits m x) 1 1 _ (bits_len m x) (by omega) (by omega) (by omega) HBB (by omega) HR7.out.rd).mono ?_
            rintro en w3 ⟨A9, c9, rfl, hR, hb3⟩
            have HB3 := Lib.hid (HB2.out.trans (hb3.mono HB2.out.size))
            have HO3 := Lib.hid (HO2.out.below hb3)
            have HC3 := Lib.hid (HR7.out.below hb3)
            have HRD := Lib.hid hR.rd
            clear hb3 hR
            go_wp2_with fail
            refine (sSide_any A9 (pl (bits m x) 1 1).length c9 (pl (bits m x) 1 1) _ rfl (by rw [HLN.out]; omega) HSG HRD.out).mono ?_
            rintro en w4 ⟨rfl, mq, rfl⟩
            rw [HSD.out]
            have HQ : Hid (OwnQ (w3.drewN mq) w.heap.size (.slice A7 m c7) (bits m x)) := ⟨A7, c7, by rw [HBL.out], by
              have h := HC3.out
              refine ⟨rfl, by rw [HBL.out]; exact h.2.1, ?_⟩
              rcases h.2.2 with ⟨h3, h4⟩ | ⟨g, h3, h4, h5, h6⟩
              · exact .inl ⟨h3, by rw [HBL.out]; exact h4⟩
              · exact .inr ⟨g, h3, Nat.le_trans hz0 h4, h5, h6⟩⟩
            have HO4 : Hid (OwnQ (w3.drewN mq) w.heap.size u4 (bcTo m x).1) := HO3.out
            have HB4 : Hid (Below w.heap.size w (w3.drewN mq)) := below_drewN HB3.out mq
            obtain ⟨s, hs⟩ : ∃ s, s = sdOf m x := ⟨_, rfl⟩
            rw [← hs] at hsb ⊢
            have HSS := Lib.hid hs; clear hs
            have fin1 : (l < 0 ∨ s < l) → Hid (s = (bcTo m (x + 1)).2) ∧ Hid (OwnQ (w3.drewN mq) w.heap.size (.slice A7 m c7) (bcTo m (x + 1)).1) := fun h => by
              have e := HU.out (by rw [← HL.out, ← HSS.out]; exact h)
              exact ⟨by show _ = _; rw [e, HSS.out], by show OwnQ _ _ _ _; rw [e]; exact HQ.out⟩
            have fin2 : ¬ (l < 0 ∨ s < l) → Hid (l = (bcTo m (x + 1)).2) ∧ Hid (OwnQ (w3.drewN mq) w.heap.size u4 (bcTo m (x + 1)).1) := fun h => by
              have e := HS.out (by rw [← HL.out, ← HSS.out]; exact h)
              exact ⟨by show _ = _; rw [e, HL.out], by show OwnQ _ _ _ _; rw [e]; exact HO4.out⟩
            rcases Int.lt_or_le l 0 with c1 | c1
            · obtain ⟨f1, f2⟩ := fin1 (.inl c1)
              clear fin1 fin2
              go_wp2
              go_roundw
              case rel => exact ⟨x + 1, by omega, by go_num, by rw [f1.out], f2, HB4.out⟩
              case measure => simp [intOf]; omega
            · rcases Int.lt_or_le s l with c2 | c2
              · obtain ⟨f1, f2⟩ := fin1 (.inr c2)
                clear fin1 fin2
                go_wp2
                go_roundw
                case rel => exact ⟨x + 1, by omega, by go_num, by rw [f1.out], f2, HB4.out⟩
                case measure => simp [intOf]; omega
              · obtain ⟨f1, f2⟩ := fin2 (by omega)
                clear fin1 fin2
                go_wp2
                go_roundw
                case rel => exact ⟨x + 1, by omega, by go_num, by rw [f1.out], f2, HB4.out⟩
                case measure => simp [intOf]; omega
      · obtain rfl : x = t := by omega
        obtain ⟨A9, c9, rfl, hR⟩ := HO.out
        have HR := Lib.hid hR; clear hR HO
        go_wp2
        go_ret2
        exact ⟨A9, c9, by rw [HV.out.1, HV.out.2]; rfl, by rw [HV.out.1]; exact HR.out, hbel⟩
  · have HV : Hid (bcVal n = [] ∧ bcCode n = 2) := by show _ ∧ _; simp [bcVal, bcCode, g1]
    go_enter Try.func51, Try.ntmps51
    go_wp2_with (first | (go_at_call 74; refine (l01In_any _ _ _ _).mono ?_; rintro en w1 ⟨rfl, rfl⟩))
    go_ret2
    exact ⟨none, 0, by rw [HV.out.1, HV.out.2]; rfl, by rw [HV.out.1]; exact ⟨rfl, Nat.le_refl _, .inl ⟨rfl, rfl⟩⟩, by go_grown⟩
end Go.Proofs.Ytgfhmihnnjcagaa
