/- walks: dice -/
import Derived.Test.YtfmhbphbgdijpaaProg
import Derived.Test.YtfmhbphbgdijpaaSrcW
import Derived.Laws.BitsAllLaws
set_option linter.unusedVariables false
set_option linter.unusedSimpArgs false
namespace Go.Proofs.Ytfmhbphbgdijpaa
open Go.RowKit

def DiceV (w : World) (s : Nat) (A : Option Addr) (n c p : Nat) (h : Int) : Prop :=
  w.cell? ⟨s, 0, none⟩ = some (.slice A n c) ∧ w.cell? ⟨s, 1, none⟩ = some (.int .i64 (p : Int)) ∧ w.cell? ⟨s, 2, none⟩ = some (.int .u64 h) ∧ w.frozen? ⟨s, 1, none⟩ = false ∧ w.frozen? ⟨s, 2, none⟩ = false
/-- block s holds dice -/
def Dice (B : Nat) (w : World) (s : Nat) : Prop :=
  ∃ A n c p h, DiceV w s A n c p h ∧ n ≤ 4096 ∧ p ≤ n ∧ RdB w A n ∧ (0 < n → ∀ b off, A = some ⟨b, off, none⟩ → b < B)
theorem Dice.lt {B : Nat} {w : World} {s : Nat} (h : Dice B w s) : s < w.heap.size := by
  obtain ⟨A, n, c, p, d, ⟨c0, _⟩, _⟩ := h
  exact World.block_lt_of_cell? w _ c0
theorem Dice.below {B : Nat} {w w2 : World} {s : Nat} (h : Dice B w s) (hb : Below w.heap.size w w2) : Dice B w2 s := by
  obtain ⟨A, n, c, p, d, ⟨c0, c1, c2, z1, z2⟩, r1, r2, r5, r6⟩ := h
  exact ⟨A, n, c, p, d, ⟨later hb c0, later hb c1, later hb c2, laterF hb c1 z1, laterF hb c2 z2⟩, r1, r2, r5.below hb, r6⟩
def DicePost (B s : Nat) (n : Int) (w : World) (en : Ending) (w9 : World) : Prop := ∃ x : Int, en = .returned (.int .i64 x) ∧ 0 ≤ x ∧ x < n ∧ Dice B w9 s ∧ Gs s w w9
def RollPost (B : Nat) (w : World) (en : Ending) (w9 : World) : Prop := ∃ s : Nat, en = .returned (.pointer (some ⟨s, 0, none⟩)) ∧ w.heap.size ≤ s ∧ Dice B w9 s ∧ Below w.heap.size w w9
theorem wrapu_bd (x : Int) : 0 ≤ IntKind.u64.wrap x ∧ IntKind.u64.wrap x < 18446744073709551616 := by
  rw [IntKind.wrap_u64]; omega
theorem and_bd (x : Int) (h0 : 0 ≤ x) (h1 : x < 18446744073709551616) : 0 ≤ bits .and .u64 x 16777215 ∧ bits .and .u64 x 16777215 ≤ 16777215 := by
  rw [u64_and x 16777215 h0 h1 (by decide) (by decide)]
  have : x.toNat &&& (16777215 : Int).toNat ≤ (16777215 : Int).toNat := Nat.and_le_right
  omega
theorem dice_q (h : Int) : ∃ q : Int, bits .and .u64 (IntKind.u64.wrap (IntKind.u64.wrap (h * 6364136223846793005) + 1442695040888963407) / 8589934592) 16777215 = q ∧ 0 ≤ q ∧ q ≤ 16777215 := by
  have h1 := wrapu_bd (IntKind.u64.wrap (h * 6364136223846793005) + 1442695040888963407)
  have h2 := and_bd (IntKind.u64.wrap (IntKind.u64.wrap (h * 6364136223846793005) + 1442695040888963407) / 8589934592) (by omega) (by omega)
  exact ⟨_, rfl, h2⟩
theorem rem_rng0 {e n : Int} (h : 0 < n) : 0 ≤ e % n ∧ e % n < n := ⟨Int.emod_nonneg _ (by omega), Int.emod_lt_of_pos _ h⟩
set_option maxHeartbeats 4000000 in
theorem dbelow_any (B s : Nat) (n : Int) (w : World) (h : Dice B w s) (hBs : B ≤ s) (hn0 : 0 < n) : Calls Try.prog 52 #[.pointer (some ⟨s, 0, none⟩), .int .i64 n] w (DicePost B s n w) := by
  obtain ⟨A0, na, c, p, d, ⟨c0, c1, c2, z1, z2⟩, hn, hp, hr, hlt⟩ := h
  have HR := Lib.hid hr
  have HL := Lib.hid hlt
  obtain ⟨q, hq, q0, q1⟩ := dice_q d
  have n0 : (n == 0) = false := by simp; omega
  have hpn : (p : Int) ≤ na := by omega
  by_cases hpl : p < na
  · rcases hr with h0 | ⟨b, off, hA, hr⟩
    · exfalso; omega
    subst hA
    obtain ⟨x, hx, x0, x1⟩ := hr p hpl
    have hbs := hlt (by omega) b off rfl
    clear hr hlt
    have hb1 : ¬ b = s := by omega
    have hb2 : ¬ s = b := by omega
    have hpi : (p : Int) < na := by omega
    have hp0 : (0 : Int) ≤ p := by omega
    go_enter Try.func52, Try.ntmps52
    go_wp2
    go_quiet (fail)
    go_wp2
    go_quiet (fail)
    go_wp2
    go_ret
    refine ⟨_, rfl, (rem_rng0 hn0).1, (rem_rng0 hn0).2, ⟨some ⟨b, off, none⟩, na, c, p + 1, IntKind.u64.wrap (IntKind.u64.wrap (d * 6364136223846793005) + 1442695040888963407), ⟨by go_simp, by go_simp, by go_simp, by go_simp, by go_simp⟩, hn, by omega, ?_, HL.out⟩, ?_⟩
    · exact RdB.g HR.out (by repeat (first | exact Gs.refl _ _ | exact Gs.set (Gs.refl _ _) | refine Gs.drewN ?_ _ | refine Gs.set ?_)) (fun h0 b off e => Nat.lt_of_lt_of_le (HL.out h0 b off e) hBs)
    · exact (by repeat (first | exact Gs.refl _ _ | exact Gs.set (Gs.refl _ _) | refine Gs.drewN ?_ _ | refine Gs.set ?_))
  · have hpe : ¬ (p : Int) < na := by omega
    clear hr hlt
    go_enter Try.func52, Try.ntmps52
    go_wp2
    go_quiet (fail)
    go_wp2
    go_ret
    refine ⟨_, rfl, (rem_rng0 hn0).1, (rem_rng0 hn0).2, ⟨A0, na, c, p, IntKind.u64.wrap (IntKind.u64.wrap (d * 6364136223846793005) + 1442695040888963407), ⟨by go_simp, by go_simp, by go_simp, by go_simp, by go_simp⟩, hn, by omega, ?_, HL.out⟩, ?_⟩
    · exact RdB.g HR.out (by repeat (first | exact Gs.refl _ _ | exact Gs.set (Gs.refl _ _) | refine Gs.drewN ?_ _ | refine Gs.set ?_)) (fun h0 b off e => Nat.lt_of_lt_of_le (HL.out h0 b off e) hBs)
    · exact (by repeat (first | exact Gs.refl _ _ | exact Gs.set (Gs.refl _ _) | refine Gs.drewN ?_ _ | refine Gs.set ?_))
set_option maxHeartbeats 4000000 in
theorem roll_any (B : Nat) (A : Option Addr) (n c : Nat) (d : Int) (w : World) (hr : RdB w A n) (hm : n ≤ 4096) (hAB : 0 < n → ∀ b off, A = some ⟨b, off, none⟩ → b < B) :
    Calls Try.prog 51 #[.slice A n c, .int .u64 d] w (RollPost B w) := by
  have HA := Lib.hid hAB
  clear hAB
  have HR := Lib.hid hr; clear hr
  go_enter Try.func51, Try.ntmps51
  go_wp2
  go_loopw [6] (fun i wr => ∃ (k : Nat) (d : Int), k ≤ n ∧ i = .int .i64 (k : Int) ∧ wr.cell? ⟨w.heap.size, 0, none⟩ = some (.slice A n c) ∧ wr.cell? ⟨w.heap.size, 1, none⟩ = some (.int .i64 0) ∧ wr.cell? ⟨w.heap.size, 2, none⟩ = some (.int .u64 d) ∧ wr.frozen? ⟨w.heap.size, 1, none⟩ = false ∧ wr.frozen? ⟨w.heap.size, 2, none⟩ = false ∧ Below w.heap.size w wr) (fun i _ => n - (intOf i).toNat)
  case atStart => exact ⟨0, IntKind.u64.wrap (IntKind.u64.wrap (d * 9001) + (n : Int)), Nat.zero_le _, rfl, by go_simp, by go_simp, by go_simp, by go_simp, by go_simp, by go_grown⟩
  case round =>
    obtain ⟨k, d, hk, rfl, c0, c1, c2, z1, z2, hbel⟩ := hrel
    have fin : Dice B wr w.heap.size := ⟨A, n, c, 0, d, ⟨c0, c1, c2, z1, z2⟩, hm, Nat.zero_le _, HR.out.below hbel, HA.out⟩
    have FIN := Lib.hid fin; clear fin
    by_cases hlt : k < n
    · have hr := HR.out
      rcases hr with h0 | ⟨b, off, hA2, hr⟩
      · exfalso; omega
      subst hA2
      obtain ⟨x, hx0, x0, x1⟩ := hr k hlt
      have hx := (hbel.cell (World.block_lt_of_cell? w _ hx0)).trans hx0
      have hbs := World.block_lt_of_cell? w _ hx0
      clear hr hx0
      have hb1 : ¬ b = w.heap.size := by dsimp only at hbs; omega
      have hb2 : ¬ w.heap.size = b := by dsimp only at hbs; omega
      have hi0 : (0 : Int) ≤ k := by omega
      have hi1 : (k : Int) < n := by omega
      go_wp2
      go_region
      all_goals go_wp2
      all_goals go_roundw
      case rel => exact ⟨k + 1, IntKind.u64.wrap (IntKind.u64.wrap (IntKind.u64.wrap (d * 1099511628211) + x) + 5), by omega, by go_num, by go_simp, by go_simp, by go_simp, by go_simp, by go_simp, Below.drew (hbel.setCell (p := ⟨w.heap.size, 2, none⟩) (Nat.le_refl _) _)⟩
      case measure => simp [intOf]; omega
    · have hlt3 : ¬ (k : Int) < n := by omega
      go_wp2
      go_ret
      exact ⟨_, rfl, Nat.le_refl _, FIN.out, hbel⟩
end Go.Proofs.Ytfmhbphbgdijpaa
