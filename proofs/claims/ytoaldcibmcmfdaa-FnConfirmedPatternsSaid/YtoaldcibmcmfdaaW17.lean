/- walks: ConfirmPatterns, ConfirmCount of the reference -/
import Derived.Test.YtoaldcibmcmfdaaW16
set_option linter.unusedVariables false
set_option linter.unusedSimpArgs false
namespace Go.Proofs.Ytoaldcibmcmfdaa
open Go.RowKit

theorem PatV.form {w : World} {v : Value} {xs : List Int} (h : PatV w v xs) : ∃ A c, v = .slice A xs.length c := by
  rcases h with ⟨rfl, rfl⟩ | ⟨b, off, c, rfl, _⟩
  · exact ⟨none, 0, rfl⟩
  · exact ⟨_, _, rfl⟩
theorem snoc_01 {xs : List Int} {z : Int} (h : Hid (∀ x ∈ xs, 0 ≤ x ∧ x ≤ 1)) (h0 : 0 ≤ z) (h1 : z ≤ 1) : Hid (∀ x ∈ xs ++ [z], 0 ≤ x ∧ x ≤ 1) := fun x hx => by
  rcases List.mem_append.1 hx with h2 | h2
  · exact h.out x h2
  · rw [List.mem_singleton.1 h2]; exact ⟨h0, h1⟩
set_option maxHeartbeats 8000000 in
theorem sCount_any (n k : Nat) (a m : Int) (hn : n ≤ 12) (a0 : -1 ≤ a) (a1 : a ≤ 16) (hk0 : 1 ≤ k) (hk1 : k ≤ 12) : ∀ (r : Nat) (v : Value) (xs : List Int) (w : World), xs.length + r = n → Hid (∀ x ∈ xs, 0 ≤ x ∧ x ≤ 1) → PatV w v xs →
    Calls Try.prog 51 #[v, .int .i64 n, .int .i64 a, .int .i64 m, .int .i64 k] w fun en w9 => en = .returned (.int .i64 (patSum (cf a m k) xs r)) ∧ Below w.heap.size w w9 := by
  intro r
  induction r with
  | zero =>
    intro v xs w hl hb h
    rw [patSum_zero]
    exact sLeaf_any n k a m v xs w hn a0 a1 hk0 hk1 (by omega) hb h
  | succ r ih =>
    intro v xs w hl hb h
    obtain ⟨A, c, rfl⟩ := h.form
    have HP := Lib.hid h; clear h
    have IH := Lib.hid ih; clear ih
    have HE := Lib.hid (patSum_succ (cf a m k) xs r)
    have b1 := pat_bd (k := k) (m := m) (xs := xs ++ [0]) (r := r) hn a1 (by simp; omega)
    have b2 := pat_bd (k := k) (m := m) (xs := xs ++ [1]) (r := r) hn a1 (by simp; omega)
    have L1 : Hid ((xs ++ [0]).length + r = n) := by show _ = _; simp; omega
    have L2 : Hid ((xs ++ [1]).length + r = n) := by show _ = _; simp; omega
    have hlt : (xs.length : Int) < n := by omega
    have hx12 : xs.length ≤ 12 := by omega
    have HL := Lib.hid hl; clear hl
    go_enter Try.func51, Try.ntmps51
    go_wp2_with fail
    refine (ownP_any _ xs _ (by omega) HP.out).mono ?_
    rintro en w1 ⟨v1, rfl, ho1, hz1, hb1⟩
    have HO1 := Lib.hid ho1; clear ho1
    go_wp2_with (at_builtin; refine app_int rfl _ _ rfl w.heap.size v1 xs rfl (OwnV.alloc HO1.out _) 0 _ rfl (cell_new1 _ _) (by omega) (by simp; omega) ?_; intro g cap w2 hown2 hb2)
    have hB2 : Below w.heap.size w w2 := (Below.alloc hb1 (by omega) _).trans hb2
    have PV := Lib.hid (PatV.own hown2); clear hown2
    refine (IH.out _ (xs ++ [0]) _ L1.out (snoc_01 hb (by decide) (by decide)) PV.out).mono ?_
    rintro en w3 ⟨rfl, hb3⟩
    have hB3 := hB2.trans (hb3.mono hB2.size)
    have hz3 := hB3.size
    go_wp2_with fail
    refine (ownP_any _ xs _ (by omega) (HP.out.below hB3)).mono ?_
    rintro en w4 ⟨v4, rfl, ho4, hz4, hb4⟩
    have HO4 := Lib.hid ho4; clear ho4
    go_wp2_with (at_builtin; refine app_int rfl _ _ rfl w3.heap.size v4 xs rfl (OwnV.alloc HO4.out _) 1 _ rfl (cell_new1 _ _) (by omega) (by simp; omega) ?_; intro g5 cap5 w5 hown5 hb5)
    have hB5 : Below w3.heap.size w3 w5 := (Below.alloc hb4 (by omega) _).trans hb5
    have PV5 := Lib.hid (PatV.own hown5); clear hown5
    refine (IH.out _ (xs ++ [1]) _ L2.out (snoc_01 hb (by decide) (by decide)) PV5.out).mono ?_
    rintro en w6 ⟨rfl, hb6⟩
    have hB6 := hB3.trans ((hB5.trans (hb6.mono hB5.size)).mono hB3.size)
    go_wp2
    go_ret
    exact ⟨by rw [HE.out]; rfl, hB6⟩
end Go.Proofs.Ytoaldcibmcmfdaa
