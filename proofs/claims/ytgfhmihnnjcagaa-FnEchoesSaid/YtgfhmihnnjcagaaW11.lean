/- walks: a pulse is added -/
import Derived.Test.YtgfhmihnnjcagaaMark
import Derived.Test.YtgfhmihnnjcagaaW5
import Derived.Test.YtgfhmihnnjcagaaPlainE
set_option linter.unusedVariables false
set_option linter.unusedSimpArgs false
namespace Go.Proofs.Ytgfhmihnnjcagaa
open Go.RowKit

theorem Cells.lt0 {w : World} {g off : Nat} {xs : List Int} (h : Cells w g off xs) {i : Nat} (hi : i < xs.length) : g < w.heap.size := World.block_lt_of_cell? w _ (h.1 i hi)
set_option maxHeartbeats 2000000 in
theorem addEcho_any (g n c : Nat) (ys : List Int) (B : Option Addr) (p e : Nat) (ps : List Int) (d : Nat) (gn M : Int) (w : World) (hn : ys.length = n) (hp : ps.length = p) (hnm : n ≤ 400) (hdp : d + p ≤ n)
    (hM : 0 ≤ M) (hM2 : M ≤ 1000000000000000) (hb : Hid (Bd M ys)) (hs : Hid (Sig ps)) (hg : -1000000000 ≤ gn ∧ gn ≤ 1000000000) (hc : Cells w g 0 ys) (hr : Rd w B ps) (hB : ∀ b off, B = some ⟨b, off, none⟩ → b ≠ g) :
    Calls Try.prog 97 #[.slice (some ⟨g, 0, none⟩) n c, .slice B p e, .int .i64 d, .int .i64 gn] w fun en w9 => en = .returned (.tuple #[]) ∧ Cells w9 g 0 (addTo ys ps d gn p) ∧ w.grownBy w9 (some g) := by
  have HC := Lib.hid hc; clear hc
  rcases hr with rfl | ⟨b, off, hA, hr⟩
  · obtain rfl : p = 0 := by simpa using hp.symm
    go_enter Try.func97, Try.ntmps97
    go_wp2
    refine wp_loop_rounds 1 ?_
    rw [rounds_succ]
    go_wp2
    go_end0
    exact ⟨rfl, HC.out, World.grownBy.refl _ _⟩
  · subst hA
    have hne := hB b off rfl
    have hne2 : ¬ b = g := hne
    have hne3 : ¬ g = b := Ne.symm hne
    have HP := Lib.hid hr; have HN := Lib.hid hn; have HPN := Lib.hid hp
    clear hr hn hp hB
    go_enter Try.func97, Try.ntmps97
    go_wp2
    go_loopw [8, 9, 12] (fun _ _ i wr => ∃ j : Nat, j ≤ p ∧ i = .int .i64 (j : Int) ∧ Hid (Cells wr g 0 (addTo ys ps d gn j)) ∧ Hid (w.grownBy wr (some g))) (fun _ _ i _ => p - (intOf i).toNat)
    case atStart => exact ⟨0, Nat.zero_le _, rfl, HC, World.grownBy.refl _ _⟩
    case round =>
      obtain ⟨j, hj, rfl, HK, HG⟩ := hrel
      by_cases hlt : j < p
      · have hx0 := HP.out j (by rw [HPN.out]; exact hlt)
        have hx := HG.out.cell hx0 (fun e => hne (by injection e))
        have hl : d + j < (addTo ys ps d gn j).length := by rw [addTo_len, HN.out]; omega
        have hy := HK.out.1 (d + j) hl
        have hf := HK.out.2 (d + j) hl
        simp only [Nat.zero_add] at hy hf
        have yb : -(M + 1000000000 * 1000) ≤ (addTo ys ps d gn j).getD (d + j) 0 ∧ (addTo ys ps d gn j).getD (d + j) 0 ≤ M + 1000000000 * 1000 := addTo_bd (by rw [HN.out]; omega) hb.out hs.out hg (d + j)
        have xb := hs.out.at j
        obtain ⟨y, hyy⟩ : ∃ y, y = (addTo ys ps d gn j).getD (d + j) 0 := ⟨_, rfl⟩
        obtain ⟨x, hxx⟩ : ∃ x, x = ps.getD j 0 := ⟨_, rfl⟩
        rw [← hyy] at hy yb
        rw [← hxx] at hx xb
        have HK2 : Hid (Cells (wr.setCell ⟨g, d + j, none⟩ (.int .i64 (y + gn * x))) g 0 (addTo ys ps d gn (j + 1))) := by
          show Cells _ _ _ _
          have h2 := HK.out.put (d + j) (y + gn * x) hl
          rw [Nat.zero_add] at h2
          rw [hyy, hxx] at h2 ⊢
          exact h2
        have HG2 : Hid (w.grownBy (wr.setCell ⟨g, d + j, none⟩ (.int .i64 (y + gn * x))) (some g)) := grown_set HG.out
        have xy := mul_bd (a := gn) (b := x) (A := 1000000000) (B := 1000) hg xb
        clear hyy hxx hl hx0
        have hi0 : (0 : Int) ≤ (d : Int) + j := by omega
        have hi1 : (d : Int) + j < n := by omega
        have hi2 : ((d : Int) + j).toNat = d + j := by omega
        go_wp2
        go_roundw
        case rel => exact ⟨j + 1, by omega, by go_num, HK2, HG2⟩
        case measure => simp [intOf]; omega
      · obtain rfl : j = p := by omega
        go_wp2
        go_end0
        exact ⟨rfl, HK.out, HG.out⟩
end Go.Proofs.Ytgfhmihnnjcagaa
