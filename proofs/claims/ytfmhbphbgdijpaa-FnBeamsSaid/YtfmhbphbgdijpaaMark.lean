/- walks: markInt64S, heldInt64S -/
import Derived.Test.YtfmhbphbgdijpaaOwn
set_option linter.unusedVariables false
set_option linter.unusedSimpArgs false
namespace Go.Proofs.Ytfmhbphbgdijpaa
open Go.RowKit

/-- the numbers k, k + 1, .. -/
def iota (k : Int) (n : Nat) : List Int := (List.range n).map (fun i : Nat => k + (i : Int))
theorem iota_len (k : Int) (n : Nat) : (iota k n).length = n := by simp [iota]
theorem iota_at {k : Int} {n i : Nat} (h : i < n) : (iota k n).getD i 0 = k + i := by simp [iota, h]
theorem iota_snoc (k : Int) (j : Nat) : iota k (j + 1) = iota k j ++ [k + j] := by simp [iota, List.range_succ]
def mix (k : Int) (ys : List Int) (j : Nat) : List Int := iota k j ++ ys.drop j
theorem mix_len {k : Int} {ys : List Int} {j : Nat} (h : j ≤ ys.length) : (mix k ys j).length = ys.length := by simp [mix, iota_len]; omega
theorem mix_set {k : Int} {ys : List Int} {j : Nat} (h : j < ys.length) : (mix k ys j).set j (k + j) = mix k ys (j + 1) := by
  unfold mix
  rw [iota_snoc, List.set_append_right _ _ (by rw [iota_len]; exact Nat.le_refl _), iota_len, Nat.sub_self, List.drop_eq_getElem_cons h, List.set_cons_zero, List.append_assoc]; rfl
theorem mix_all {k : Int} {ys : List Int} {n : Nat} (h : ys.length = n) : mix k ys n = iota k n := by unfold mix; rw [List.drop_eq_nil_of_le (by omega), List.append_nil]
theorem grown_set {w wr : World} {g o : Nat} {v : Value} (h : w.grownBy wr (some g)) : w.grownBy (wr.setCell ⟨g, o, none⟩ v) (some g) :=
  ⟨h.os, h.tape, h.output, by simpa [World.setCell] using h.size, fun k hk hne => (Below.heap_setCell wr _ v k (fun e => hne (by rw [e]))).trans (h.block k hk hne)⟩
def blk (A : Option Addr) : Option Nat := A.map Addr.block
theorem OwnR.ge {w : World} {B : Nat} {A : Option Addr} {n c : Nat} {ys : List Int} (h : OwnR w B A n c ys) : ∀ k, blk A = some k → B ≤ k := by
  intro k hk
  rcases h.2.2 with ⟨rfl, _⟩ | ⟨g, rfl, hB, _⟩
  · cases hk
  · cases hk; exact hB
set_option maxHeartbeats 1000000 in
theorem mark_any (A : Option Addr) (n c B : Nat) (ys : List Int) (k : Int) (w : World) (h : OwnR w B A n c ys) (hm : n ≤ 1099511627776) (k0 : 0 ≤ k) (k1 : k ≤ 1099511627776) :
    Calls Try.prog 36 #[.slice A n c, .int .i64 k] w fun en w9 => en = .returned (.int .i64 (k + n)) ∧ OwnR w9 B A n c (iota k n) ∧ w.grownBy w9 (blk A) := by
  rcases h.2.2 with ⟨rfl, rfl⟩ | ⟨g, rfl, hB, hg, hc⟩
  · go_enter Try.func36, Try.ntmps36
    go_wp2
    refine wp_loop_rounds 1 ?_
    rw [rounds_succ]
    go_wp2
    go_ret
    exact ⟨by simp, ⟨rfl, h.2.1, .inl ⟨rfl, rfl⟩⟩, World.grownBy.refl _ _⟩
  · have HC := Lib.hid hc; clear hc
    have HN : Hid (ys.length = n) := h.1
    have hnc := h.2.1
    clear h
    go_enter Try.func36, Try.ntmps36
    go_wp2
    go_loopw [1, 5] (fun q i wr => ∃ j : Nat, j ≤ n ∧ i = .int .i64 (j : Int) ∧ q = .int .i64 (k + j) ∧ Hid (Cells wr g 0 (mix k ys j)) ∧ Hid (w.grownBy wr (some g))) (fun _ i _ => n - (intOf i).toNat)
    case atStart => exact ⟨0, Nat.zero_le _, rfl, by simp, HC, World.grownBy.refl _ _⟩
    case round =>
      obtain ⟨j, hj, rfl, rfl, HK, HG⟩ := hrel
      by_cases hlt : j < n
      · have hl : j < (mix k ys j).length := by rw [mix_len (by rw [HN.out]; omega), HN.out]; exact hlt
        have hd := HK.out.1 j hl
        have hf := HK.out.2 j hl
        simp only [Nat.zero_add] at hd hf
        obtain ⟨y, hy⟩ : ∃ y, y = (mix k ys j).getD j 0 := ⟨_, rfl⟩
        rw [← hy] at hd
        clear hy
        have HK2 : Hid (Cells (wr.setCell ⟨g, j, none⟩ (.int .i64 (k + j))) g 0 (mix k ys (j + 1))) := by
          show Cells _ _ _ _
          have h2 := HK.out.put j (k + j) hl
          rw [Nat.zero_add, mix_set (by rw [HN.out]; exact hlt)] at h2
          exact h2
        have HG2 : Hid (w.grownBy (wr.setCell ⟨g, j, none⟩ (.int .i64 (k + j))) (some g)) := grown_set HG.out
        clear hl
        go_wp2
        go_roundw
        case rel => exact ⟨j + 1, by omega, by go_num, by go_num, HK2, HG2⟩
        case measure => simp [intOf]; omega
      · obtain rfl : j = n := by omega
        go_wp2
        go_ret
        exact ⟨rfl, ⟨iota_len _ _, hnc, .inr ⟨g, rfl, hB, Nat.lt_of_lt_of_le hg HG.out.size, by have h2 := HK.out; rwa [mix_all HN.out] at h2⟩⟩, HG.out⟩
set_option maxHeartbeats 1000000 in
theorem held_any (A : Option Addr) (n c B : Nat) (k : Int) (w : World) (h : OwnR w B A n c (iota k n)) (hm : n ≤ 1099511627776) (k0 : 0 ≤ k) (k1 : k ≤ 1099511627776) :
    Calls Try.prog 37 #[.slice A n c, .int .i64 k] w fun en w9 => en = .returned (.int .i64 (k + n)) ∧ w = w9 := by
  rcases h.2.2 with ⟨rfl, rfl⟩ | ⟨g, rfl, hB, hg, hc⟩
  · go_enter Try.func37, Try.ntmps37
    go_wp2
    refine wp_loop_rounds 1 ?_
    rw [rounds_succ]
    go_wp2
    go_ret
    exact ⟨by simp, rfl⟩
  · have HC := Lib.hid hc; clear hc
    have hnc := h.2.1
    clear h
    go_enter Try.func37, Try.ntmps37
    go_wp2
    go_loop [1, 5] (fun q i => ∃ j : Nat, j ≤ n ∧ i = .int .i64 (j : Int) ∧ q = .int .i64 (k + j)) (fun _ i => n - (intOf i).toNat)
    case atStart => exact ⟨0, Nat.zero_le _, rfl, by simp⟩
    case round =>
      obtain ⟨j, hj, rfl, rfl⟩ := hrel
      by_cases hlt : j < n
      · have hd := HC.out.1 j (by rw [iota_len]; exact hlt)
        rw [iota_at hlt, Nat.zero_add] at hd
        go_wp2
        go_round
        case rel => exact ⟨j + 1, by omega, by go_num, by go_num⟩
        case measure => simp [intOf]; omega
      · obtain rfl : j = n := by omega
        go_wp2
        go_ret
        exact ⟨rfl, rfl⟩
end Go.Proofs.Ytfmhbphbgdijpaa
