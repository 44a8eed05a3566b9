/- plain: confirmed patterns, by letters -/
import Derived.Test.YtoaldcibmcmfdaaPlainP
import Derived.Test.YtoaldcibmcmfdaaW6
import Derived.Test.YtoaldcibmcmfdaaW14
import Derived.Test.YtoaldcibmcmfdaaL7
set_option linter.unusedVariables false
set_option linter.unusedSimpArgs false
namespace Go.Proofs.Ytoaldcibmcmfdaa
open Go.RowKit

theorem lsum_zeros (p : Nat) : lsum (List.replicate p 0) = 0 := by
  induction p with
  | zero => rfl
  | succ p ih => rw [List.replicate_succ]; simp [lsum, ih]
theorem conf_zeros {p k : Nat} {m : Int} (hm : 1 ≤ m) : conf (List.replicate p 0) m k = -1 := by
  apply conf_miss
  intro i hi
  unfold hitAt
  have := sub_le (xs := List.replicate p 0) (fun b hb => by rw [(List.mem_replicate.1 hb).2]; exact Int.le_refl _) (i + 1) (i + 1 - k)
  rw [lsum_zeros] at this
  exact decide_eq_false (by omega)
def ScV (xs : List Int) (m k v c : Int) : Prop := v = scanVal xs m k ∧ c = scanCode xs m k
theorem sc_letters (xs : List Int) (m k : Int) : ∃ v c : Int, Hid (ScV xs m k v c) := ⟨_, _, rfl, rfl⟩
theorem sc_ok {xs : List Int} {m k v c : Int} (H : Hid (ScV xs m k v c)) (hc : c = 0) (hp : xs.length ≤ 13 ∨ xs = List.replicate xs.length 0) : ∃ i : Nat, v = i ∧ i < xs.length ∧ xs.length ≤ 13 ∧ Hid (ScV (xs.take (i + 1) ++ [0]) m k i 0) := by
  have h2 := H.out.2
  rw [hc] at h2
  have hok : scanOk xs m k = true := by
    cases h : scanOk xs m k
    · unfold scanCode at h2; rw [h] at h2; cases h2
    · rfl
  have hval := H.out.1
  unfold scanCode at h2; unfold scanVal at hval
  rw [hok, if_pos rfl] at h2 hval
  have hn : ¬ conf xs m k.toNat < 0 := fun h => by rw [if_pos h] at h2; cases h2
  rw [if_neg hn] at hval
  have hok2 := hok
  unfold scanOk at hok
  simp only [Bool.and_eq_true, decide_eq_true_eq] at hok
  obtain ⟨⟨h200, hall⟩, hrule⟩ := hok
  have hr := rule_bd hrule
  cases e : leastN (hitAt xs m k.toNat) xs.length 0 with
  | none => exfalso; apply hn; unfold conf; rw [e]; decide
  | some i =>
    obtain ⟨_, i2, i3, i4⟩ := leastN_some e
    have hci : conf xs m k.toNat = i := by unfold conf; rw [e]
    have h13 : xs.length ≤ 13 := by
      rcases hp with h | h
      · exact h
      · exfalso; apply hn; rw [h, conf_zeros (by omega)]; decide
    refine ⟨i, by rw [hval, hci], by omega, h13, ?_⟩
    have hy := conf_prefix hci (by omega) 0
    have hok3 : scanOk (xs.take (i + 1) ++ [0]) m k = true := by
      unfold scanOk
      rw [hrule, Bool.and_true, Bool.and_eq_true, decide_eq_true_eq]
      refine ⟨by simp; omega, allIn_iff.2 fun x hx => ?_⟩
      rcases List.mem_append.1 hx with h | h
      · exact allIn_iff.1 hall x (List.mem_of_mem_take h)
      · rw [List.mem_singleton.1 h]; decide
    show ScV _ _ _ _ _
    refine ⟨?_, ?_⟩
    · unfold scanVal; rw [hok3, if_pos rfl, hy, if_neg (by omega)]
    · unfold scanCode; rw [hok3, if_pos rfl, hy, if_neg (by omega)]
def CcV (n a m k v c : Int) : Prop := v = ccVal n a m k ∧ c = ccCode n a m k
theorem cc_letters (n a m k : Int) : ∃ v c : Int, Hid (CcV n a m k v c) := ⟨_, _, rfl, rfl⟩
def CpV (n m k v c : Int) : Prop := v = cpVal n m k ∧ c = cpCode n m k
theorem cp_letters (n m k : Int) : ∃ v c : Int, Hid (CpV n m k v c) := ⟨_, _, rfl, rfl⟩
end Go.Proofs.Ytoaldcibmcmfdaa
