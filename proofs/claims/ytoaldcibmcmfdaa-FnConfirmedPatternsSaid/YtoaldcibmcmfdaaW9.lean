/- walks: tails -/
import Derived.Test.YtoaldcibmcmfdaaW8
import Derived.RegionTactic
import Derived.BigRegion
set_option linter.unusedVariables false
set_option linter.unusedSimpArgs false
namespace Go.Proofs.Ytoaldcibmcmfdaa
open Go.RowKit

def TailsPost (n : Nat) (a : Int) (w : World) (en : Ending) (w9 : World) : Prop := ∃ g : Nat, en = .returned (.slice (some ⟨g, 0, none⟩) (n + 2) (n + 2)) ∧ Cells w9 g 0 (tls n a 0) ∧ Below w.heap.size w w9
def TI (n : Nat) (a : Int) (w : World) (x : Nat) (wr : World) : Prop := Cells wr (w.heap.size + 1) 0 (cnts n a x) ∧ wr.cell? ⟨w.heap.size + 2, 0, none⟩ = some (.slice (some ⟨w.heap.size + 1, 0, none⟩) (n + 2) (n + 2)) ∧ wr.cell? ⟨w.heap.size, 0, none⟩ = some (.int .i64 a) ∧ w.heap.size + 3 ≤ wr.heap.size ∧ Below w.heap.size w wr
theorem TI.step {n : Nat} {a : Int} {w : World} (hn : n ≤ 12) (h0 : 0 ≤ a) (h1 : a ≤ 16) (x : Nat) (wr w2 : World) (g : Nat) (hx : x < 2 ^ n) (h : TI n a w x wr) (hb : Below wr.heap.size wr w2) (hg : g = wr.heap.size) (hc : Cells w2 g 0 (bits n x)) :
    Calls Try.prog 68 #[.slice (some ⟨g, 0, none⟩) n n, .pointer (some ⟨w.heap.size + 2, 0, none⟩), .pointer (some ⟨w.heap.size, 0, none⟩)] w2 fun en w9 => en = .returned (.tuple #[]) ∧ TI n a w (x + 1) w9 := by
  obtain ⟨c, l, b, hz, hbel⟩ := h
  refine (closT_any n x (w.heap.size + 2) w.heap.size (w.heap.size + 1) g a w2 hn hx h0 h1 (later hb l) (later hb b) (Lib.hid (c.below hb)) (Lib.hid hc)).mono ?_
  rintro en w9 ⟨rfl, hc9, hg9⟩
  exact ⟨rfl, hc9, hg9.cell2 (later hb l) (by dsimp only; omega), hg9.cell2 (later hb b) (by dsimp only; omega), Nat.le_trans hz (Nat.le_trans hb.size hg9.size), (hbel.trans (hb.mono hbel.size)).trans (hg9.to_below (by omega) (Nat.le_trans hbel.size hb.size))⟩
set_option maxHeartbeats 4000000 in
theorem tails_any (n : Nat) (a : Int) (w : World) (hn : n ≤ 12) (h0 : 0 ≤ a) (h1 : a ≤ 16) :
    Calls Try.prog 49 #[.int .i64 n, .int .i64 a] w (TailsPost n a w) := by
  have hmk : ∀ w : World, (Instr.makeSlice 27 (.int .i64 ((n : Int) + 2)) (.int .i64 ((n : Int) + 2))).run Try.prog w = .ok (.slice (some ⟨w.heap.size, 0, none⟩) (n + 2) (n + 2)) (w.alloc (.cells (zeros (n + 2)) 2)) := fun w => by
    have h := mk_ints (n + 2) (by omega) w
    simpa using h
  have hmf : ∀ (fn : Fn) (first cap : Array Value) (w : World), (Instr.makeFunc fn first cap).run Try.prog w = .ok (.func fn first cap) w := fun _ _ _ _ => rfl
  have HS := Lib.hid (zeros_cells (w.alloc (.cells #[.int .i64 a] 2)) 2 (n + 2))
  go_enter Try.func49, Try.ntmps49
  go_wp2_with fail
  refine (eachT_any n (w.heap.size + 2) w.heap.size (TI n a w) _ hn ?_ (TI.step hn h0 h1)).mono ?_
  · refine ⟨?_, by go_simp, by go_simp, by simp, by go_grown⟩
    have h2 := HS.out
    rw [World.size_alloc] at h2
    rw [cnts_zero]
    exact Cells.below h2 (Below.alloc (Below.refl _ _) (Nat.le_refl _) _)
  rintro en w1 ⟨rfl, c1, l1, b1, z1, bel1⟩
  rw [cnts_all, tls_start] at c1
  have C1 := Lib.hid c1; clear c1
  go_wp2
  go_loopw [6] (fun i wr => ∃ k : Nat, k ≤ n + 1 ∧ i = .int .i64 ((k : Int) - 1) ∧ Hid (Cells wr (w.heap.size + 1) 0 (tls n a k)) ∧ wr.cell? ⟨w.heap.size + 2, 0, none⟩ = some (.slice (some ⟨w.heap.size + 1, 0, none⟩) (n + 2) (n + 2)) ∧ Below w.heap.size w wr) (fun i _ => (intOf i + 1).toNat)
  case atStart => exact ⟨n + 1, Nat.le_refl _, by congr 1; omega, C1, l1, bel1⟩
  case round =>
    obtain ⟨k, hk, hi, HK, l2, hbel⟩ := hrel
    cases k with
    | zero =>
      obtain rfl := hi
      go_wp2
      go_ret
      exact ⟨_, rfl, HK.out, hbel⟩
    | succ m =>
      obtain rfl := hi.trans (show _ = Value.int .i64 (m : Int) by congr 1; omega)
      clear hi
      have e0 := HK.out.1 m (by rw [tls_len]; omega)
      have e1 := HK.out.1 (m + 1) (by rw [tls_len]; omega)
      have ef := HK.out.2 m (by rw [tls_len]; omega)
      rw [tls_at (by omega), if_pos (by omega), Nat.zero_add] at e0
      rw [tls_at (by omega), if_neg (by omega), Nat.zero_add] at e1
      rw [Nat.zero_add] at ef
      have b0 := ex_nonneg n a m h0 h1
      have b2 := ex_top n a m h0 h1
      have b3 := tail_bd n a h0 h1 (m + 1)
      have b4 := p16_le n hn
      have HP := Lib.hid (HK.out.put m (ex n a m + tail n a (m + 1)) (by rw [tls_len]; omega))
      have HQ := Lib.hid (tls_step (n := n) (a := a) (m := m) (by omega))
      obtain ⟨x, hx⟩ : ∃ x, x = ex n a m := ⟨_, rfl⟩
      obtain ⟨y, hy⟩ : ∃ y, y = tail n a (m + 1) := ⟨_, rfl⟩
      rw [← hx] at e0 b0 b2 HP HQ
      rw [← hy] at e1 b3 HP HQ
      clear hx hy
      have hw : IntKind.i64.wrap (x + y) = x + y := IntWalk.i64_in _ (by omega)
      have hw2 : wrap64 (x + y) = x + y := IntWalk.wrap64_in _ (by omega)
      have HF : Hid (Cells (wr.setCell ⟨w.heap.size + 1, m, none⟩ (.int .i64 (x + y))) (w.heap.size + 1) 0 (tls n a m)) := by
        show Cells _ _ _ _
        have h2 := HP.out
        rw [Nat.zero_add, HQ.out] at h2; exact h2
      clear HP HQ
      have hi0 : (0 : Int) ≤ m := by omega
      have hi1 : (m : Int) < n + 2 := by omega
      have hi2 : (m : Int) + 1 < n + 2 := by omega
      have HN2 : ((m : Int) + 1).toNat = m + 1 := by omega
      go_wp2
      go_region
      all_goals go_wp2
      all_goals go_roundw
      case rel => exact ⟨m, by omega, rfl, Lib.hid (HF.out.drew), by go_simp, Below.drew (hbel.setCell (p := ⟨w.heap.size + 1, m, none⟩) (by dsimp only; omega) _)⟩
      case measure => first | (simp [intOf]; done) | (simp [intOf]; omega)
end Go.Proofs.Ytoaldcibmcmfdaa
