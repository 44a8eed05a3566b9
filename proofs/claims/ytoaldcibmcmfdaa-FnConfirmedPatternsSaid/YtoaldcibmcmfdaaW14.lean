/- walks: ConfirmPatterns, ConfirmCount, the program -/
import Derived.Test.YtoaldcibmcmfdaaW13
set_option linter.unusedVariables false
set_option linter.unusedSimpArgs false
namespace Go.Proofs.Ytoaldcibmcmfdaa
open Go.RowKit

def cpOk (n m k : Int) : Bool := inR n 0 12 && rule m k
def cpVal (n m k : Int) : Int := if cpOk n m k then cfAll n.toNat (-1) m k.toNat else 0
def cpCode (n m k : Int) : Int := if cpOk n m k then 0 else 2
def ccOk (n a m k : Int) : Bool := inR n 0 12 && inR a 0 16 && rule m k
def ccVal (n a m k : Int) : Int := if ccOk n a m k then cfAll n.toNat a m k.toNat else 0
def ccCode (n a m k : Int) : Int := if ccOk n a m k then 0 else 2
theorem cp_parts (n m k : Int) : (inR n 0 12 = false ∧ Hid (cpVal n m k = 0 ∧ cpCode n m k = 2)) ∨ (inR n 0 12 = true ∧ rule m k = false ∧ Hid (cpVal n m k = 0 ∧ cpCode n m k = 2)) ∨
    (∃ j q : Nat, n = j ∧ k = q ∧ j ≤ 12 ∧ 1 ≤ q ∧ q ≤ 12 ∧ inR n 0 12 = true ∧ rule m k = true ∧ Hid (cpVal n m k = cfAll j (-1) m q ∧ cpCode n m k = 0)) := by
  cases h1 : inR n 0 12
  · exact .inl ⟨rfl, by show _ ∧ _; simp [cpVal, cpCode, cpOk, h1]⟩
  · cases h2 : rule m k
    · exact .inr (.inl ⟨rfl, rfl, by show _ ∧ _; simp [cpVal, cpCode, cpOk, h2]⟩)
    · have g1 := inR_iff.1 h1; have g2 := rule_bd h2
      exact .inr (.inr ⟨n.toNat, k.toNat, by omega, by omega, by omega, by omega, by omega, rfl, rfl, by show _ ∧ _; simp [cpVal, cpCode, cpOk, h1, h2]⟩)
theorem cc_parts (n a m k : Int) : (inR n 0 12 = false ∧ Hid (ccVal n a m k = 0 ∧ ccCode n a m k = 2)) ∨ (inR n 0 12 = true ∧ inR a 0 16 = false ∧ Hid (ccVal n a m k = 0 ∧ ccCode n a m k = 2)) ∨ (inR n 0 12 = true ∧ inR a 0 16 = true ∧ rule m k = false ∧ Hid (ccVal n a m k = 0 ∧ ccCode n a m k = 2)) ∨
    (∃ j q : Nat, n = j ∧ k = q ∧ j ≤ 12 ∧ 1 ≤ q ∧ q ≤ 12 ∧ 0 ≤ a ∧ a ≤ 16 ∧ inR n 0 12 = true ∧ inR a 0 16 = true ∧ rule m k = true ∧ Hid (ccVal n a m k = cfAll j a m q ∧ ccCode n a m k = 0)) := by
  cases h1 : inR n 0 12
  · exact .inl ⟨rfl, by show _ ∧ _; simp [ccVal, ccCode, ccOk, h1]⟩
  · cases h3 : inR a 0 16
    · exact .inr (.inl ⟨rfl, rfl, by show _ ∧ _; simp [ccVal, ccCode, ccOk, h3]⟩)
    · cases h2 : rule m k
      · exact .inr (.inr (.inl ⟨rfl, rfl, rfl, by show _ ∧ _; simp [ccVal, ccCode, ccOk, h2]⟩))
      · have g1 := inR_iff.1 h1; have g2 := rule_bd h2; have g3 := inR_iff.1 h3
        exact .inr (.inr (.inr ⟨n.toNat, k.toNat, by omega, by omega, by omega, by omega, by omega, g3.1, g3.2, rfl, rfl, rfl, by show _ ∧ _; simp [ccVal, ccCode, ccOk, h1, h2, h3]⟩))
/-- the cells of ConfirmPatterns while it counts -/
def PI (n k : Nat) (m : Int) (w : World) (x : Nat) (wr : World) : Prop := wr.cell? ⟨w.heap.size + 2, 0, none⟩ = some (.int .i64 (gsum (cf (-1) m k) n x)) ∧ wr.frozen? ⟨w.heap.size + 2, 0, none⟩ = false ∧ wr.cell? ⟨w.heap.size, 0, none⟩ = some (.int .i64 m) ∧ wr.cell? ⟨w.heap.size + 1, 0, none⟩ = some (.int .i64 (k : Int)) ∧ w.heap.size + 3 ≤ wr.heap.size ∧ Below w.heap.size w wr
theorem PI.step {n k : Nat} {m : Int} {w : World} (hn : n ≤ 12) (hk0 : 1 ≤ k) (hk1 : k ≤ 12) (x : Nat) (wr w2 : World) (g : Nat) (hx : x < 2 ^ n) (h : PI n k m w x wr) (hb : Below wr.heap.size wr w2) (hg : g = wr.heap.size) (hc : Cells w2 g 0 (bits n x)) :
    Calls Try.prog 54 #[.slice (some ⟨g, 0, none⟩) n n, .pointer (some ⟨w.heap.size, 0, none⟩), .pointer (some ⟨w.heap.size + 1, 0, none⟩), .pointer (some ⟨w.heap.size + 2, 0, none⟩)] w2 fun en w9 => en = .returned (.tuple #[]) ∧ PI n k m w (x + 1) w9 := by
  obtain ⟨c, f, b, d, hz, hbel⟩ := h
  refine (closP_any n x w.heap.size (w.heap.size + 1) (w.heap.size + 2) g k m w2 hn hx hk0 hk1 (later hb b) (later hb d) (later hb c) (laterF hb c f) (Lib.hid hc)).mono ?_
  rintro en w9 ⟨rfl, hc9, hf9, hg9⟩
  exact ⟨rfl, hc9, hf9, hg9.cell2 (later hb b) (by dsimp only; omega), hg9.cell2 (later hb d) (by dsimp only; omega), Nat.le_trans hz (Nat.le_trans hb.size hg9.size), (hbel.trans (hb.mono hbel.size)).trans (hg9.to_below (by omega) (Nat.le_trans hbel.size hb.size))⟩
set_option maxHeartbeats 4000000 in
theorem iCP_any (n m k : Int) (w : World) :
    Calls Try.prog 23 #[.int .i64 n, .int .i64 m, .int .i64 k] w fun en w9 => en = .returned (.tuple #[.int .i64 (cpVal n m k), .int .i64 (cpCode n m k)]) ∧ Below w.heap.size w w9 := by
  have hmf : ∀ (fn : Fn) (first cap : Array Value) (w : World), (Instr.makeFunc fn first cap).run Try.prog w = .ok (.func fn first cap) w := fun _ _ _ _ => rfl
  rcases cp_parts n m k with ⟨h1, HV⟩ | ⟨h1, h2, HV⟩ | ⟨j, q, rfl, rfl, hj, q0, q1, h1, h2, HV⟩
  · go_enter Try.func23, Try.ntmps23
    go_wp2_with (first | (go_at_call 41; refine (isTrials_any _ _).mono ?_; rintro en w1 ⟨rfl, rfl⟩) | (go_at_call 52; refine (iRule_any _ _ _).mono ?_; rintro en w1 ⟨rfl, rfl⟩))
    go_ret2
    exact ⟨by rw [HV.out.1, HV.out.2]; rfl, by go_grown⟩
  · go_enter Try.func23, Try.ntmps23
    go_wp2_with (first | (go_at_call 41; refine (isTrials_any _ _).mono ?_; rintro en w1 ⟨rfl, rfl⟩) | (go_at_call 52; refine (iRule_any _ _ _).mono ?_; rintro en w1 ⟨rfl, rfl⟩))
    go_ret2
    exact ⟨by rw [HV.out.1, HV.out.2]; rfl, by go_grown⟩
  · have HS : Hid (PI j q m w 0 (((w.alloc (.cells #[.int .i64 m] 2)).alloc (.cells #[.int .i64 (q : Int)] 2)).alloc (.cells #[.int .i64 0] 2))) := by
      refine ⟨by go_simp; rfl, by go_simp, by go_simp, by go_simp, by simp, by go_grown⟩
    go_enter Try.func23, Try.ntmps23
    go_wp2_with (first | (go_at_call 41; refine (isTrials_any _ _).mono ?_; rintro en w1 ⟨rfl, rfl⟩) | (go_at_call 52; refine (iRule_any _ _ _).mono ?_; rintro en w1 ⟨rfl, rfl⟩))
    refine (eachP_any j w.heap.size (w.heap.size + 1) (w.heap.size + 2) (PI j q m w) _ hj HS.out (PI.step hj q0 q1)).mono ?_
    rintro en w1 ⟨rfl, c1, f1, b1, d1, z1, bel1⟩
    rw [cfAll_g] at c1
    go_wp2
    go_ret2
    exact ⟨by rw [HV.out.1, HV.out.2]; rfl, bel1⟩
def CI (n k : Nat) (m a : Int) (w : World) (x : Nat) (wr : World) : Prop := wr.cell? ⟨w.heap.size + 3, 0, none⟩ = some (.int .i64 (gsum (cf a m k) n x)) ∧ wr.frozen? ⟨w.heap.size + 3, 0, none⟩ = false ∧ wr.cell? ⟨w.heap.size + 1, 0, none⟩ = some (.int .i64 m) ∧ wr.cell? ⟨w.heap.size + 2, 0, none⟩ = some (.int .i64 (k : Int)) ∧ wr.cell? ⟨w.heap.size, 0, none⟩ = some (.int .i64 a) ∧ w.heap.size + 4 ≤ wr.heap.size ∧ Below w.heap.size w wr
theorem CI.step {n k : Nat} {m a : Int} {w : World} (hn : n ≤ 12) (a0 : 0 ≤ a) (a1 : a ≤ 16) (hk0 : 1 ≤ k) (hk1 : k ≤ 12) (x : Nat) (wr w2 : World) (g : Nat) (hx : x < 2 ^ n) (h : CI n k m a w x wr) (hb : Below wr.heap.size wr w2) (hg : g = wr.heap.size) (hc : Cells w2 g 0 (bits n x)) :
    Calls Try.prog 59 #[.slice (some ⟨g, 0, none⟩) n n, .pointer (some ⟨w.heap.size + 1, 0, none⟩), .pointer (some ⟨w.heap.size + 2, 0, none⟩), .pointer (some ⟨w.heap.size + 3, 0, none⟩), .pointer (some ⟨w.heap.size, 0, none⟩)] w2 fun en w9 => en = .returned (.tuple #[]) ∧ CI n k m a w (x + 1) w9 := by
  obtain ⟨c, f, b, d, e, hz, hbel⟩ := h
  refine (closC_any n x (w.heap.size + 1) (w.heap.size + 2) (w.heap.size + 3) w.heap.size g k m a w2 hn hx a0 a1 hk0 hk1 (later hb b) (later hb d) (later hb c) (laterF hb c f) (later hb e) (Lib.hid hc)).mono ?_
  rintro en w9 ⟨rfl, hc9, hf9, hg9⟩
  exact ⟨rfl, hc9, hf9, hg9.cell2 (later hb b) (by dsimp only; omega), hg9.cell2 (later hb d) (by dsimp only; omega), hg9.cell2 (later hb e) (by dsimp only; omega), Nat.le_trans hz (Nat.le_trans hb.size hg9.size), (hbel.trans (hb.mono hbel.size)).trans (hg9.to_below (by omega) (Nat.le_trans hbel.size hb.size))⟩
set_option maxHeartbeats 4000000 in
theorem iCC_any (n a m k : Int) (w : World) :
    Calls Try.prog 31 #[.int .i64 n, .int .i64 a, .int .i64 m, .int .i64 k] w fun en w9 => en = .returned (.tuple #[.int .i64 (ccVal n a m k), .int .i64 (ccCode n a m k)]) ∧ Below w.heap.size w w9 := by
  have hmf : ∀ (fn : Fn) (first cap : Array Value) (w : World), (Instr.makeFunc fn first cap).run Try.prog w = .ok (.func fn first cap) w := fun _ _ _ _ => rfl
  rcases cc_parts n a m k with ⟨h1, HV⟩ | ⟨h1, h3, HV⟩ | ⟨h1, h3, h2, HV⟩ | ⟨j, q, rfl, rfl, hj, q0, q1, a0, a1, h1, h3, h2, HV⟩
  · go_enter Try.func31, Try.ntmps31
    go_wp2_with (first | (go_at_call 41; refine (isTrials_any _ _).mono ?_; rintro en w1 ⟨rfl, rfl⟩) | (go_at_call 45; refine (isChance_any _ _).mono ?_; rintro en w1 ⟨rfl, rfl⟩) | (go_at_call 52; refine (iRule_any _ _ _).mono ?_; rintro en w1 ⟨rfl, rfl⟩))
    go_ret2
    exact ⟨by rw [HV.out.1, HV.out.2]; rfl, by go_grown⟩
  · go_enter Try.func31, Try.ntmps31
    go_wp2_with (first | (go_at_call 41; refine (isTrials_any _ _).mono ?_; rintro en w1 ⟨rfl, rfl⟩) | (go_at_call 45; refine (isChance_any _ _).mono ?_; rintro en w1 ⟨rfl, rfl⟩) | (go_at_call 52; refine (iRule_any _ _ _).mono ?_; rintro en w1 ⟨rfl, rfl⟩))
    go_ret2
    exact ⟨by rw [HV.out.1, HV.out.2]; rfl, by go_grown⟩
  · go_enter Try.func31, Try.ntmps31
    go_wp2_with (first | (go_at_call 41; refine (isTrials_any _ _).mono ?_; rintro en w1 ⟨rfl, rfl⟩) | (go_at_call 45; refine (isChance_any _ _).mono ?_; rintro en w1 ⟨rfl, rfl⟩) | (go_at_call 52; refine (iRule_any _ _ _).mono ?_; rintro en w1 ⟨rfl, rfl⟩))
    go_ret2
    exact ⟨by rw [HV.out.1, HV.out.2]; rfl, by go_grown⟩
  · have HS : Hid (CI j q m a w 0 ((((w.alloc (.cells #[.int .i64 a] 2)).alloc (.cells #[.int .i64 m] 2)).alloc (.cells #[.int .i64 (q : Int)] 2)).alloc (.cells #[.int .i64 0] 2))) := by
      refine ⟨by go_simp; rfl, by go_simp, by go_simp, by go_simp, by go_simp, by simp, by go_grown⟩
    go_enter Try.func31, Try.ntmps31
    go_wp2_with (first | (go_at_call 41; refine (isTrials_any _ _).mono ?_; rintro en w1 ⟨rfl, rfl⟩) | (go_at_call 45; refine (isChance_any _ _).mono ?_; rintro en w1 ⟨rfl, rfl⟩) | (go_at_call 52; refine (iRule_any _ _ _).mono ?_; rintro en w1 ⟨rfl, rfl⟩))
    refine (eachC_any j (w.heap.size + 1) (w.heap.size + 2) (w.heap.size + 3) w.heap.size (CI j q m a w) _ hj HS.out (CI.step hj a0 a1 q0 q1)).mono ?_
    rintro en w1 ⟨rfl, c1, f1, b1, d1, e1, z1, bel1⟩
    rw [cfAll_g] at c1
    go_wp2
    go_ret2
    exact ⟨by rw [HV.out.1, HV.out.2]; rfl, bel1⟩
end Go.Proofs.Ytoaldcibmcmfdaa
