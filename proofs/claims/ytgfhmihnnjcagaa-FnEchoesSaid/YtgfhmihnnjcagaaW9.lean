/- walks: MatchSignal -/
import Derived.Test.YtgfhmihnnjcagaaOwn
import Derived.Test.YtgfhmihnnjcagaaW5
import Derived.Test.YtgfhmihnnjcagaaW8
set_option linter.unusedVariables false
set_option linter.unusedSimpArgs false
namespace Go.Proofs.Ytgfhmihnnjcagaa
open Go.RowKit

def mtTo (xs ps : List Int) (k : Nat) : Nat → Int
  | 0 => 0
  | j + 1 => mtTo xs ps k j + ps.getD j 0 * xs.getD (k + j) 0
def mt (xs ps : List Int) (k : Nat) : Int := mtTo xs ps k ps.length
def mtsTo (xs ps : List Int) (k : Nat) : List Int := (List.range k).map (mt xs ps)
theorem mtsTo_len (xs ps : List Int) (k : Nat) : (mtsTo xs ps k).length = k := by simp [mtsTo]
theorem mtsTo_snoc (xs ps : List Int) (k : Nat) : mtsTo xs ps k ++ [mt xs ps k] = mtsTo xs ps (k + 1) := by simp [mtsTo, List.range_succ]
def mts (xs ps : List Int) : List Int := mtsTo xs ps (xs.length - ps.length + 1)
theorem mtTo_bd {xs ps : List Int} (h : Sig xs) (h2 : Sig ps) (k i : Nat) : -(1000000 * i) ≤ mtTo xs ps k i ∧ mtTo xs ps k i ≤ 1000000 * i := by
  induction i with
  | zero => simp [mtTo]
  | succ i ih => have := mul_bd (h2.at i) (h.at (k + i)); simp only [mtTo]; omega
theorem mt_bd {xs ps : List Int} (h : Sig xs) (h2 : Sig ps) (hl : ps.length ≤ 400) (k : Nat) : -400000000 ≤ mt xs ps k ∧ mt xs ps k ≤ 400000000 := by
  have := mtTo_bd h h2 k ps.length; unfold mt; omega
theorem mts_val {xs ps : List Int} (h : Sig xs) (h2 : Sig ps) (hl : ps.length ≤ 400) : Val (mts xs ps) := by
  intro x hx
  obtain ⟨k, _, rfl⟩ := List.mem_map.1 hx
  have := mt_bd h h2 hl k; omega
def mCode (xs ps : List Int) : Int := if isSig xs && isSig ps then (if ps.length = 0 ∨ xs.length < ps.length then 5 else 0) else 1
theorem below_app1 {w wr w2 : World} {m : Nat} {o : Obj} (h : Below w.heap.size w wr) (hb : Below w.heap.size ((wr.drewN m).alloc o) w2) : Below w.heap.size w w2 := below_app h hb

set_option maxHeartbeats 4000000 in
theorem iMatch_any (A : Option Addr) (n c : Nat) (xs : List Int) (B : Option Addr) (p d : Nat) (ps : List Int) (w : World) (hn : xs.length = n) (hp : ps.length = p) (hm : n ≤ 400) (h1 : 1 ≤ p) (hpn : p ≤ n) (hb : Hid (Sig xs)) (hb2 : Hid (Sig ps)) (hr : Rd w A xs) (hr2 : Rd w B ps) :
    Calls Try.prog 103 #[.slice A n c, .slice B p d] w fun en w9 => ∃ A9 c9, en = .returned (.slice A9 (mts xs ps).length c9) ∧ OwnR w9 w.heap.size A9 (mts xs ps).length c9 (mts xs ps) ∧ Below w.heap.size w w9 := by
  have HF : Hid (mts xs ps = mtsTo xs ps (n - p + 1)) := by show _ = _; rw [← hn, ← hp]; rfl
  have HP2 : Hid (∀ k, mt xs ps k = mtTo xs ps k p) := by show ∀ k, _; intro k; rw [← hp]; rfl
  rcases hr with rfl | ⟨b, off, rfl, hc⟩
  · exfalso; simp at hn; omega
  rcases hr2 with rfl | ⟨b2, off2, rfl, hc2⟩
  · exfalso; simp at hp; omega
  have HC := Lib.hid hc; have HC2 := Lib.hid hc2; clear hc hc2
  have HN := Lib.hid hn; have HNP := Lib.hid hp; clear hn hp
  have hnp : ((n : Int) - p + 1) = ((n - p + 1 : Nat) : Int) := by omega
  go_enter Try.func103, Try.ntmps103
  go_wp2
  go_loopw [5, 16] (fun v i wr => ∃ k : Nat, k ≤ n - p + 1 ∧ i = .int .i64 (k : Int) ∧ Hid (OwnV wr w.heap.size v (mtsTo xs ps k)) ∧ Below w.heap.size w wr) (fun _ i _ => n + 1 - (intOf i).toNat)
  case atStart => exact ⟨0, Nat.zero_le _, rfl, OwnV.none _ _, by go_grown⟩
  case round =>
    obtain ⟨k, hk, rfl, HO, hbel⟩ := hrel
    obtain ⟨wo, rfl⟩ : ∃ wo : World, wo = wr := ⟨_, rfl⟩
    by_cases hlt : k < n - p + 1
    · have hlt2 : (k : Int) < (n : Int) - p + 1 := by omega
      have hlt3 : (k : Int) + p ≤ n := by omega
      go_wp2
      go_loopw [7, 21] (fun s i w4 => ∃ j m : Nat, j ≤ p ∧ i = .int .i64 (j : Int) ∧ s = .int .i64 (mtTo xs ps k j) ∧ w4 = wo.drewN m) (fun _ i _ => p - (intOf i).toNat)
      case atStart => exact ⟨0, 0, Nat.zero_le _, rfl, rfl, rfl⟩
      case round =>
        obtain ⟨j, m, hj, rfl, rfl, rfl⟩ := hrel
        have hbd := mtTo_bd hb.out hb2.out k j
        by_cases hj2 : j < p
        · have hx0 := HC.out (k + j) (by rw [HN.out]; omega)
          have hy0 := HC2.out j (by rw [HNP.out]; exact hj2)
          have hck := (hbel.cell (World.block_lt_of_cell? w _ hx0)).trans hx0
          have hdk := (hbel.cell (World.block_lt_of_cell? w _ hy0)).trans hy0
          clear hx0 hy0
          have hxb := hb.out.at (k + j)
          have hyb := hb2.out.at j
          have HT : Hid (mtTo xs ps k (j + 1) = mtTo xs ps k j + ps.getD j 0 * xs.getD (k + j) 0) := rfl
          obtain ⟨x, hx⟩ : ∃ x, x = xs.getD (k + j) 0 := ⟨_, rfl⟩
          rw [← hx] at hck hxb
          obtain ⟨y, hy⟩ : ∃ y, y = ps.getD j 0 := ⟨_, rfl⟩
          rw [← hy] at hdk hyb
          have HX := Lib.hid hx; have HY := Lib.hid hy; clear hx hy
          have hxy := mul_bd hyb hxb
          have hi0 : (j : Int) < p := by omega
          have hi1 : (k : Int) + j < n := by omega
          go_wp2
          skip
          go_roundw
          case rel => exact ⟨j + 1, _, by omega, by go_num, by rw [HT.out, ← HX.out, ← HY.out], rfl⟩
          case measure => simp [intOf]; omega
        · obtain rfl : j = p := by omega
          have hmb := mt_bd hb.out hb2.out (by rw [HNP.out]; omega) k
          have HM := Lib.hid (HP2.out k)
          have hkl := mtsTo_len xs ps k
          have HS := Lib.hid (mtsTo_snoc xs ps k)
          rw [HM.out] at hmb
          go_wp2_with (first | (at_builtin; refine app_int rfl _ _ rfl w.heap.size _ (mtsTo xs ps k) rfl (OwnV.alloc (OwnV.drewN HO.out m) _) _ _ rfl (cell_new1 _ _) (by omega) (by have hsz := hbel.size; (try simp only [World.size_alloc, World.size_drew]); exact Nat.le_trans hsz (by first | exact Nat.le_refl _ | exact Nat.le_succ _ | (simp; omega))) ?_; intro g cap w2 hown2 hb2))
          go_roundw
          case rel => exact ⟨k + 1, by omega, by go_num, by show OwnV _ _ _ _; rw [← HS.out, HM.out]; rw [hkl] at hown2; exact hown2, below_app hbel hb2⟩
          case measure => simp [intOf]; omega
    · obtain rfl : k = n - p + 1 := by omega
      have hlt2 : ¬ (((n - p + 1 : Nat) : Int) < (n : Int) - p + 1) := by omega
      have hlt3 : ¬ (((n - p + 1 : Nat) : Int) + p ≤ n) := by omega
      obtain ⟨A9, c9, rfl, hR⟩ := HO.out.R
      clear HO
      go_wp2
      go_ret
      exact ⟨A9, c9, by rw [HF.out]; rfl, by rw [HF.out]; exact hR, hbel⟩

set_option maxHeartbeats 4000000 in
theorem sMatch_any (A : Option Addr) (n c : Nat) (xs : List Int) (B : Option Addr) (p d : Nat) (ps : List Int) (w : World) (hn : xs.length = n) (hp : ps.length = p) (hm : n ≤ 400) (h1 : 1 ≤ p) (hpn : p ≤ n) (hb : Hid (Sig xs)) (hb2 : Hid (Sig ps)) (hr : Rd w A xs) (hr2 : Rd w B ps) :
    Calls Try.prog 101 #[.slice A n c, .slice B p d] w fun en w9 => ∃ A9 c9, en = .returned (.slice A9 (mts xs ps).length c9) ∧ OwnR w9 w.heap.size A9 (mts xs ps).length c9 (mts xs ps) ∧ Below w.heap.size w w9 := by
  have HF : Hid (mts xs ps = mtsTo xs ps (n - p + 1)) := by show _ = _; rw [← hn, ← hp]; rfl
  have HP2 : Hid (∀ k, mt xs ps k = mtTo xs ps k p) := by show ∀ k, _; intro k; rw [← hp]; rfl
  rcases hr with rfl | ⟨b, off, rfl, hc⟩
  · exfalso; simp at hn; omega
  rcases hr2 with rfl | ⟨b2, off2, rfl, hc2⟩
  · exfalso; simp at hp; omega
  have HC := Lib.hid hc; have HC2 := Lib.hid hc2; clear hc hc2
  have HN := Lib.hid hn; have HNP := Lib.hid hp; clear hn hp
  have hnp : ((n : Int) - p + 1) = ((n - p + 1 : Nat) : Int) := by omega
  go_enter Try.func101, Try.ntmps101
  go_wp2
  go_loopw [5, 6] (fun v i wr => ∃ k : Nat, k ≤ n - p + 1 ∧ i = .int .i64 (k : Int) ∧ Hid (OwnV wr w.heap.size v (mtsTo xs ps k)) ∧ Below w.heap.size w wr) (fun _ i _ => n + 1 - (intOf i).toNat)
  case atStart => exact ⟨0, Nat.zero_le _, rfl, (OwnV.empty _ _ (Nat.le_refl _)), by go_grown⟩
  case round =>
    obtain ⟨k, hk, rfl, HO, hbel⟩ := hrel
    obtain ⟨wo, rfl⟩ : ∃ wo : World, wo = wr := ⟨_, rfl⟩
    by_cases hlt : k < n - p + 1
    · have hlt2 : (k : Int) < (n : Int) - p + 1 := by omega
      have hlt3 : (k : Int) + p ≤ n := by omega
      go_wp2
      go_loopw [7, 8] (fun s i w4 => ∃ j m : Nat, j ≤ p ∧ i = .int .i64 (j : Int) ∧ s = .int .i64 (mtTo xs ps k j) ∧ w4 = wo.drewN m) (fun _ i _ => p - (intOf i).toNat)
      case atStart => exact ⟨0, 0, Nat.zero_le _, rfl, rfl, rfl⟩
      case round =>
        obtain ⟨j, m, hj, rfl, rfl, rfl⟩ := hrel
        have hbd := mtTo_bd hb.out hb2.out k j
        by_cases hj2 : j < p
        · have hx0 := HC.out (k + j) (by rw [HN.out]; omega)
          have hy0 := HC2.out j (by rw [HNP.out]; exact hj2)
          have hck := (hbel.cell (World.block_lt_of_cell? w _ hx0)).trans hx0
          have hdk := (hbel.cell (World.block_lt_of_cell? w _ hy0)).trans hy0
          clear hx0 hy0
          have hxb := hb.out.at (k + j)
          have hyb := hb2.out.at j
          have HT : Hid (mtTo xs ps k (j + 1) = mtTo xs ps k j + ps.getD j 0 * xs.getD (k + j) 0) := rfl
          obtain ⟨x, hx⟩ : ∃ x, x = xs.getD (k + j) 0 := ⟨_, rfl⟩
          rw [← hx] at hck hxb
          obtain ⟨y, hy⟩ : ∃ y, y = ps.getD j 0 := ⟨_, rfl⟩
          rw [← hy] at hdk hyb
          have HX := Lib.hid hx; have HY := Lib.hid hy; clear hx hy
          have hxy := mul_bd hyb hxb
          have hi0 : (j : Int) < p := by omega
          have hi1 : (k : Int) + j < n := by omega
          go_wp2
          go_quiet (fail)
          go_wp2
          go_roundw
          case rel => exact ⟨j + 1, _, by omega, by go_num, by rw [HT.out, ← HX.out, ← HY.out], rfl⟩
          case measure => simp [intOf]; omega
        · obtain rfl : j = p := by omega
          have hmb := mt_bd hb.out hb2.out (by rw [HNP.out]; omega) k
          have HM := Lib.hid (HP2.out k)
          have hkl := mtsTo_len xs ps k
          have HS := Lib.hid (mtsTo_snoc xs ps k)
          rw [HM.out] at hmb
          go_wp2_with (first | (at_builtin; refine app_int rfl _ _ rfl w.heap.size _ (mtsTo xs ps k) rfl (OwnV.alloc (OwnV.drewN HO.out m) _) _ _ rfl (cell_new1 _ _) (by omega) (by have hsz := hbel.size; (try simp only [World.size_alloc, World.size_drew]); exact Nat.le_trans hsz (by first | exact Nat.le_refl _ | exact Nat.le_succ _ | (simp; omega))) ?_; intro g cap w2 hown2 hb2))
          go_roundw
          case rel => exact ⟨k + 1, by omega, by go_num, by show OwnV _ _ _ _; rw [← HS.out, HM.out]; rw [hkl] at hown2; exact hown2, below_app hbel hb2⟩
          case measure => simp [intOf]; omega
    · obtain rfl : k = n - p + 1 := by omega
      have hlt2 : ¬ (((n - p + 1 : Nat) : Int) < (n : Int) - p + 1) := by omega
      have hlt3 : ¬ (((n - p + 1 : Nat) : Int) + p ≤ n) := by omega
      obtain ⟨A9, c9, rfl, hR⟩ := HO.out.R
      clear HO
      go_wp2
      go_ret
      exact ⟨A9, c9, by rw [HF.out]; rfl, by rw [HF.out]; exact hR, hbel⟩
end Go.Proofs.Ytgfhmihnnjcagaa
