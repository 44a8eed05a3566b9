/- walks: what the laws draw (patterns) -/
import Derived.Test.YtoaldcibmcmfdaaDrW4
import Derived.Test.YtoaldcibmcmfdaaWL
set_option linter.unusedVariables false
set_option linter.unusedSimpArgs false
namespace Go.Proofs.Ytoaldcibmcmfdaa
open Go.RowKit

def ScanDraw (w : World) (en : Ending) (w9 : World) : Prop := ∃ (A : Option Addr) (p c : Nat) (xs : List Int) (x y : Int), en = .returned (.tuple #[.slice A p c, .int .i64 x, .int .i64 y]) ∧ xs.length = p ∧ p ≤ c ∧ p ≤ 1000 ∧ (p ≤ 13 ∨ xs = List.replicate p 0) ∧ Rd w9 A xs ∧ Below w.heap.size w w9
set_option maxHeartbeats 8000000 in
theorem dScan_any (A : Option Addr) (n c : Nat) (w : World) (hr : RdB w A n) (hm : n ≤ 4096) : Calls Try.prog 38 #[.slice A n c] w (ScanDraw w) := by
  have hmk : ∀ (z : Nat) (w : World), z ≤ 1 → (Instr.makeSlice 27 (.int .i64 (200 + (z : Int))) (.int .i64 (200 + (z : Int)))).run Try.prog w = .ok (.slice (some ⟨w.heap.size, 0, none⟩) (200 + z) (200 + z)) (w.alloc (.cells (zeros (200 + z)) 2)) := fun z w hz => by
    have h := mk_ints (200 + z) (by omega) w
    simpa using h
  have HMK := Lib.hid hmk; clear hmk
  go_enter Try.func38, Try.ntmps38
  go_wp2_with fail
  refine (from_any A n c _ hr hm).mono ?_
  rintro en w1 ⟨s, rfl, hs1, hS1, hb1⟩
  go_wp2_with fail
  refine (dRule_any s _ hS1).mono ?_
  rintro en w2 ⟨x1, x2, rfl, hS2, hg2⟩
  have hB2 : Below w.heap.size w w2 := hb1.trans (hg2.to_below hs1 hb1.size)
  go_wp2_with fail
  refine (dBits_any s _ hS2).mono ?_
  rintro en w3 ⟨v, xs, rfl, ho3, hl3, hz3, hS3, hg3⟩
  have hB3 : Below w.heap.size w w3 := hB2.trans (hg3.to_below hs1 hB2.size)
  have ls2 := hS2.lt
  go_wp2_with fail
  refine (next_any s _ _ hS3).mono ?_
  rintro en w4 ⟨e, rfl, e0, he, hS4, hg4⟩
  have hB4 : Below w.heap.size w w4 := hB3.trans (hg4.to_below hs1 hB3.size)
  have HV4 := Lib.hid (OwnV.gs ho3 hg4 ls2)
  have hz4 : w2.heap.size + 1 ≤ w4.heap.size := Nat.le_trans hz3 hg4.size
  clear ho3 hg3 hg4 hg2 hb1 hS1 hS2 hS3 he
  by_cases q0 : e = 0
  · have q0b : (e == 0) = true := by simpa using q0
    clear q0
    go_wp2_with (at_builtin; refine app_int rfl _ _ rfl w2.heap.size v xs rfl (OwnV.alloc HV4.out _) 2 _ rfl (cell_new1 _ _) (by omega) (by simp; omega) ?_; intro g cap w5 hown5 hb5)
    have HV5 : Hid (OwnV w5 w2.heap.size (.slice (some ⟨g, 0, none⟩) (xs.length + 1) cap) (xs ++ [2])) := hown5
    have hB5 : Below w.heap.size w w5 := (Below.alloc hB4 (by have := hB4.size; omega) _).trans (hb5.mono hB2.size)
    clear hown5 hb5
    go_ret3
    obtain ⟨A5, c5, e5, hR5⟩ := HV5.out.R
    have hl5 : (xs ++ [2]).length = xs.length + 1 := by simp
    injection e5 with g1 g2 g3
    subst g1; subst g3
    exact ⟨_, _, _, xs ++ [2], x1, x2, rfl, hl5, by have := hR5.2.1; omega, by omega, .inl (by omega), hR5.rd, hB5⟩
  · have q0b : (e == 0) = false := by simpa using q0
    by_cases q1 : e = 1
    · have q1b : (e == 1) = true := by simpa using q1
      clear q0 q1
      go_wp2_with fail
      refine (next_any s _ _ hS4).mono ?_
      rintro en w5 ⟨z, rfl, z0, hz, hS5, hg5⟩
      have hB5 : Below w.heap.size w w5 := hB4.trans (hg5.to_below hs1 hB4.size)
      obtain ⟨k, rfl⟩ : ∃ k : Nat, z = k := ⟨z.toNat, by omega⟩
      have hk : k ≤ 1 := by omega
      have hmk2 := fun w => HMK.out k w hk
      have HC := Lib.hid (zeros_cells w5 2 (200 + k))
      clear hz HV4 hS5 hg5
      go_wp2
      go_ret3
      exact ⟨_, _, _, List.replicate (200 + k) 0, x1, x2, rfl, by simp, Nat.le_refl _, by omega, .inr rfl, HC.out.rd, hB5.trans (Below.alloc (Below.refl _ _) (by simpa using hB5.size) _)⟩
    · have q1b : (e == 1) = false := by simpa using q1
      clear q0 q1
      obtain ⟨A5, c5, rfl, hR5⟩ := HV4.out.R
      have HR5 := Lib.hid hR5; clear hR5
      go_wp2
      go_ret3
      exact ⟨_, _, _, xs, x1, x2, rfl, rfl, HR5.out.2.1, by omega, .inl (by omega), HR5.out.rd, hB4⟩
end Go.Proofs.Ytoaldcibmcmfdaa
