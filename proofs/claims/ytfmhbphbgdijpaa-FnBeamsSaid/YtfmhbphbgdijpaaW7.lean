/- walks: the beam -/
import Derived.Test.YtfmhbphbgdijpaaPlainB
import Derived.RegionTactic
import Derived.BigRegion
set_option linter.unusedVariables false
set_option linter.unusedSimpArgs false
namespace Go.Proofs.Ytfmhbphbgdijpaa
open Go.RowKit

set_option maxHeartbeats 8000000 in
theorem iBeam_any (A : Option Addr) (n c : Nat) (rows : List (List Int)) (B : Option Addr) (d : Nat) (ds : List Int) (L : Nat) (w : World) (hn : rows.length = n) (hch : Hid (Chans rows n L)) (hp : ds.length = n) (hb : Hid (Bd 1000000 ds)) (hr : RdM w A rows) (hr2 : Rd w B ds) :
    Calls Try.prog 63 #[.slice A n c, .slice B n d] w fun en w9 => ∃ A9 c9, en = .returned (.slice A9 L c9) ∧ OwnR w9 w.heap.size A9 L c9 (bVal rows ds) ∧ Below w.heap.size w w9 := by
  have hnb : 1 ≤ n ∧ n ≤ 12 ∧ L ≤ 400 := ⟨hch.out.2.1, hch.out.2.2.1, hch.out.2.2.2.1⟩
  rcases hr with rfl | ⟨b, off, rfl, hc⟩
  · exfalso; simp at hn; omega
  rcases hr2 with rfl | ⟨b2, off2, rfl, hc2⟩
  · exfalso; simp at hp; omega
  obtain ⟨B0, m0, c0, hck0, hml0, _, _, _⟩ := hc 0 (by omega)
  rw [Nat.add_zero] at hck0
  obtain rfl : m0 = L := by rw [← hml0]; exact (hch.out.2.2.2.2 0 (by omega)).1
  have HC := Lib.hid hc; have HC2 := Lib.hid hc2; have HN := Lib.hid hn; have HP := Lib.hid hp; have HML := Lib.hid hml0
  clear hc hc2 hn hp hml0
  have hmk := mk_ints m0 (by omega)
  have lb2 : b2 < w.heap.size := World.block_lt_of_cell? w _ (HC2.out 0 (by rw [HP.out]; omega))
  go_enter Try.func63, Try.ntmps63
  go_wp2
  go_loopw [17] (fun i wr => ∃ k : Nat, k ≤ n ∧ i = .int .i64 (k : Int) ∧ Hid (Cells wr w.heap.size 0 (bMix rows ds m0 k 0)) ∧ w.heap.size + 1 ≤ wr.heap.size ∧ Below w.heap.size w wr) (fun i _ => n - (intOf i).toNat)
  case atStart => exact ⟨0, Nat.zero_le _, rfl, by show Cells _ _ _ _; rw [bMix_zero]; exact zeros_cells w 2 m0, by simp, by go_grown⟩
  case round =>
    obtain ⟨i, hi, rfl, HK, hsz, hbel⟩ := hrel
    obtain ⟨wo, rfl⟩ : ∃ wo : World, wo = wr := ⟨_, rfl⟩
    by_cases hlt : i < n
    · obtain ⟨B1, m1, c1, hx0, hml, hmc, _, hrd⟩ := HC.out i (by rw [HN.out]; exact hlt)
      have hrow := hch.out.2.2.2.2 i hlt
      obtain rfl : m1 = m0 := by omega
      have hx := (hbel.cell (World.block_lt_of_cell? w _ hx0)).trans hx0
      have hy0 := HC2.out i (by rw [HP.out]; exact hlt)
      have hdb := hb.out i
      have HSB : Hid (∀ k, -(1000 * i) ≤ bSum rows ds k i ∧ bSum rows ds k i ≤ 1000 * i) := fun k => bSum_bd hch.out k i hi
      have HRS := Lib.hid hrow.2
      have HML1 := Lib.hid hml
      have HIN : Hid (∀ k : Nat, inR ((k : Int) + ds.getD i 0) 0 ((m1 : Int) - 1) = true → bSum rows ds k (i + 1) = bSum rows ds k i + (rows.getD i []).getD ((k : Int) + ds.getD i 0).toNat 0) := fun k => bSum_in hml
      have HOUT : Hid (∀ k : Nat, inR ((k : Int) + ds.getD i 0) 0 ((m1 : Int) - 1) = false → bSum rows ds k (i + 1) = bSum rows ds k i) := fun k => bSum_out hml
      obtain ⟨dd, hdd⟩ : ∃ dd, dd = ds.getD i 0 := ⟨_, rfl⟩
      rw [← hdd] at hy0 hdb HIN HOUT
      have HRD := Lib.hid hrd
      clear hx0 hrd hrow hdd hml
      go_wp2
      go_loopw [24] (fun q w4 => ∃ k : Nat, k ≤ m1 ∧ q = .int .i64 (k : Int) ∧ Hid (Cells w4 w.heap.size 0 (bMix rows ds m1 i k)) ∧ w.heap.size + 1 ≤ w4.heap.size ∧ Below w.heap.size w w4) (fun q _ => m1 - (intOf q).toNat)
      case atStart => exact ⟨0, Nat.zero_le _, rfl, HK, hsz, hbel⟩
      case round =>
        obtain ⟨k, hk, rfl, HT, hs4, hb4⟩ := hrel
        by_cases hlt2 : k < m1
        · have hy := (hb4.cell (World.block_lt_of_cell? w _ hy0)).trans hy0
          have hlen : k < (bMix rows ds m1 i k).length := by rw [bMix_len]; exact hlt2
          have hq := HT.out.1 k hlen
          have hf := HT.out.2 k hlen
          rw [bMix_at hlt2, if_neg (Nat.lt_irrefl k)] at hq
          simp only [Nat.zero_add] at hq hf
          have yb := HSB.out k
          obtain ⟨y, hyy⟩ : ∃ y, y = bSum rows ds k i := ⟨_, rfl⟩
          rw [← hyy] at hq yb
          have hi4 : (k : Int) < m1 := by omega
          have hi5 : (i : Int) < n := by omega
          rcases Bool.eq_false_or_eq_true (inR ((k : Int) + dd) 0 ((m1 : Int) - 1)) with hin | hin
          · have hin2 := inR_iff.1 hin
            have hbs := HIN.out k hin
            rcases HRD.out with h0 | ⟨b1, o1, hB1, hc1⟩
            · exfalso; have h1 := HML1.out; rw [h0] at h1; simp at h1; omega
            subst hB1
            have hj : ((k : Int) + dd).toNat < m1 := by omega
            have hz0 := hc1 ((k : Int) + dd).toNat (by rw [HML1.out]; exact hj)
            have hz := (hb4.cell (World.block_lt_of_cell? w _ hz0)).trans hz0
            have lb1 : b1 < w.heap.size := World.block_lt_of_cell? w _ hz0
            have zb := HRS.out.at ((k : Int) + dd).toNat
            obtain ⟨x, hxx⟩ : ∃ x, x = (rows.getD i []).getD ((k : Int) + dd).toNat 0 := ⟨_, rfl⟩
            rw [← hxx] at hz zb hbs
            have HT2 : Hid (Cells (wr.setCell ⟨w.heap.size, k, none⟩ (.int .i64 (y + x))) w.heap.size 0 (bMix rows ds m1 i (k + 1))) := by
              show Cells _ _ _ _
              have h2 := HT.out.put k (y + x) hlen
              rw [Nat.zero_add, hyy, ← hbs, bMix_set hlt2] at h2
              rw [hyy, ← hbs]
              exact h2
            clear hyy hxx hlen hz0 hc1 hbs
            have n1 : ¬ b1 = w.heap.size := by omega
            have n2 : ¬ b2 = w.heap.size := by omega
            have m1' : ¬ w.heap.size = b1 := by omega
            have m2' : ¬ w.heap.size = b2 := by omega
            have e3 : IntKind.i64.wrap (y + x) = y + x := IntWalk.i64_in _ (by omega)
            have hi6 : (0 : Int) ≤ (k : Int) + dd := hin2.1
            have hi7 : (k : Int) + dd < m1 := by omega
            go_wp2_with (first | (go_at_call 54; refine (within_any _ _ _ _).mono ?_; rintro en w1 ⟨rfl, rfl⟩) | (go_at_call 55; refine (len_any _ _ _ _).mono ?_; rintro en w1 ⟨rfl, rfl⟩))
            go_region
            all_goals go_wp2
            all_goals clear e3
            go_roundw
            case rel => exact ⟨k + 1, by omega, by go_num, HT2, by (try simp only [World.size_alloc, World.size_drew, World.size_setCell]); exact hs4, Below.drew (hb4.setCell (p := ⟨w.heap.size, k, none⟩) (Nat.le_refl _) _)⟩
            case measure => simp [intOf]; omega
          · have hbs := HOUT.out k hin
            have HT2 : Hid (Cells wr w.heap.size 0 (bMix rows ds m1 i (k + 1))) := by show Cells _ _ _ _; rw [bMix_stay hbs]; exact HT.out
            clear hyy hlen hbs
            go_wp2_with (first | (go_at_call 54; refine (within_any _ _ _ _).mono ?_; rintro en w1 ⟨rfl, rfl⟩) | (go_at_call 55; refine (len_any _ _ _ _).mono ?_; rintro en w1 ⟨rfl, rfl⟩))
            go_roundw
            case rel => exact ⟨k + 1, by omega, by go_num, HT2, hs4, hb4⟩
            case measure => simp [intOf]; omega
        · obtain rfl : k = m1 := by omega
          have HC2 : Hid (Cells wr w.heap.size 0 (bMix rows ds k (i + 1) 0)) := by show Cells _ _ _ _; rw [← bMix_next]; exact HT.out
          go_wp2
          go_roundw
          case rel => exact ⟨i + 1, by omega, by go_num, HC2, hs4, hb4⟩
          case measure => simp [intOf]; omega
    · obtain rfl : i = n := by omega
      have HE : Hid (bMix rows ds m0 i 0 = bVal rows ds) := bMix_all HN.out HML.out
      have hc9 := HK.out
      rw [HE.out] at hc9
      have HC9 := Lib.hid hc9
      have HL : Hid ((bVal rows ds).length = m0) := bVal_len HML.out
      clear hc9
      go_wp2
      go_ret
      exact ⟨some ⟨w.heap.size, 0, none⟩, m0, rfl, OwnR.of_cells HL.out (by omega) HC9.out, hbel⟩
end Go.Proofs.Ytfmhbphbgdijpaa
