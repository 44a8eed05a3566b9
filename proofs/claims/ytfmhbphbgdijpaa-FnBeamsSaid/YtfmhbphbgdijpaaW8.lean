/- walks: the beam, the reference -/
import Derived.Test.YtfmhbphbgdijpaaPlainB
import Derived.Deep.QuietTactic
import Derived.BigQuiet
set_option linter.unusedVariables false
set_option linter.unusedSimpArgs false
namespace Go.Proofs.Ytfmhbphbgdijpaa
open Go.RowKit

theorem below_app {w wr w2 : World} {m : Nat} {o : Obj} (h : Below w.heap.size w wr) (hb : Below w.heap.size ((wr.drewN m).alloc o) w2) : Below w.heap.size w w2 :=
  (Below.alloc (below_drewN h m) h.size o).trans hb

set_option maxHeartbeats 8000000 in
theorem sBeam_any (A : Option Addr) (n c : Nat) (rows : List (List Int)) (B : Option Addr) (d : Nat) (ds : List Int) (L : Nat) (w : World) (hn : rows.length = n) (hch : Hid (Chans rows n L)) (hp : ds.length = n) (hb : Hid (Bd 1000000 ds)) (hr : RdM w A rows) (hr2 : Rd w B ds) :
    Calls Try.prog 65 #[.slice A n c, .slice B n d] w fun en w9 => ∃ A9 c9, en = .returned (.slice A9 L c9) ∧ OwnR w9 w.heap.size A9 L c9 (bVal rows ds) ∧ Below w.heap.size w w9 := by
  have hnb : 1 ≤ n ∧ n ≤ 12 ∧ L ≤ 400 := ⟨hch.out.2.1, hch.out.2.2.1, hch.out.2.2.2.1⟩
  rcases hr with rfl | ⟨b, off, rfl, hc⟩
  · exfalso; simp at hn; omega
  rcases hr2 with rfl | ⟨b2, off2, rfl, hc2⟩
  · exfalso; simp at hp; omega
  obtain ⟨B0, m0, c0, hck0, hml0, _, _, _⟩ := hc 0 (by omega)
  rw [Nat.add_zero] at hck0
  obtain rfl : m0 = L := by rw [← hml0]; exact (hch.out.2.2.2.2 0 (by omega)).1
  have HC := Lib.hid hc; have HC2 := Lib.hid hc2; have HN := Lib.hid hn; have HP := Lib.hid hp; have HML := Lib.hid hml0
  clear hc hc2 hn hp hml0
  go_enter Try.func65, Try.ntmps65
  go_wp2
  go_loopw [5, 6] (fun v i wr => ∃ k : Nat, k ≤ m0 ∧ i = .int .i64 (k : Int) ∧ Hid (OwnV wr w.heap.size v (bTo rows ds k)) ∧ Below w.heap.size w wr) (fun _ i _ => m0 - (intOf i).toNat)
  case atStart => exact ⟨0, Nat.zero_le _, rfl, OwnV.empty _ _ (Nat.le_refl _), by go_grown⟩
  case round =>
    obtain ⟨k, hk, rfl, HO, hbel⟩ := hrel
    obtain ⟨wo, rfl⟩ : ∃ wo : World, wo = wr := ⟨_, rfl⟩
    have hck := (hbel.cell (World.block_lt_of_cell? w _ hck0)).trans hck0
    by_cases hlt : k < m0
    · go_wp2
      go_loopw [7, 8] (fun s i w4 => ∃ j m : Nat, j ≤ n ∧ i = .int .i64 (j : Int) ∧ s = .int .i64 (bSum rows ds k j) ∧ w4 = wo.drewN m) (fun _ i _ => n - (intOf i).toNat)
      case atStart => exact ⟨0, 0, Nat.zero_le _, rfl, rfl, rfl⟩
      case round =>
        obtain ⟨i, m, hi, rfl, rfl, hwr⟩ := hrel
        have HW := Lib.hid hwr; clear hwr
        have yb := bSum_bd (ds := ds) hch.out k i hi
        by_cases hlt2 : i < n
        · obtain ⟨B1, m1, c1, hx0, hml, hmc, _, hrd⟩ := HC.out i (by rw [HN.out]; exact hlt2)
          have hrow := hch.out.2.2.2.2 i hlt2
          obtain rfl : m1 = m0 := by omega
          have hbw : Below w.heap.size w wr := by rw [HW.out]; exact below_drewN hbel _
          have hx := (hbw.cell (World.block_lt_of_cell? w _ hx0)).trans hx0
          have hy0 := HC2.out i (by rw [HP.out]; exact hlt2)
          have hy := (hbw.cell (World.block_lt_of_cell? w _ hy0)).trans hy0
          have hdb := hb.out i
          have HIN : Hid (inR ((k : Int) + ds.getD i 0) 0 ((m1 : Int) - 1) = true → bSum rows ds k (i + 1) = bSum rows ds k i + (rows.getD i []).getD ((k : Int) + ds.getD i 0).toNat 0) := bSum_in hml
          have HOUT : Hid (inR ((k : Int) + ds.getD i 0) 0 ((m1 : Int) - 1) = false → bSum rows ds k (i + 1) = bSum rows ds k i) := bSum_out hml
          obtain ⟨dd, hdd⟩ : ∃ dd, dd = ds.getD i 0 := ⟨_, rfl⟩
          rw [← hdd] at hy hdb HIN HOUT
          have HRD := Lib.hid hrd
          have HRS := Lib.hid hrow.2
          have HML1 := Lib.hid hml
          clear hx0 hrd hrow hml hy0 hdd
          obtain ⟨y, hyy⟩ : ∃ y, y = bSum rows ds k i := ⟨_, rfl⟩
          rw [← hyy] at yb HIN HOUT ⊢
          clear hyy
          have hi4 : (i : Int) < n := by omega
          rcases Bool.eq_false_or_eq_true (inR ((k : Int) + dd) 0 ((m1 : Int) - 1)) with hin | hin
          · have hin2 := inR_iff.1 hin
            have hbs := HIN.out hin
            rcases HRD.out with h0 | ⟨b1, o1, hB1, hc1⟩
            · exfalso; have h1 := HML1.out; rw [h0] at h1; simp at h1; omega
            subst hB1
            have hj : ((k : Int) + dd).toNat < m1 := by omega
            have hz0 := hc1 ((k : Int) + dd).toNat (by rw [HML1.out]; exact hj)
            have hz := (hbw.cell (World.block_lt_of_cell? w _ hz0)).trans hz0
            have zb := HRS.out.at ((k : Int) + dd).toNat
            obtain ⟨x, hxx⟩ : ∃ x, x = (rows.getD i []).getD ((k : Int) + dd).toNat 0 := ⟨_, rfl⟩
            rw [← hxx] at hz zb hbs
            have HBS := Lib.hid hbs
            clear hxx hz0 hc1 hbs HIN HOUT
            have e5 : IntKind.i64.wrap ((k : Int) + dd) = (k : Int) + dd := IntWalk.i64_in _ (by omega)
            have e6 : IntKind.i64.wrap ((m1 : Int) - 1) = (m1 : Int) - 1 := IntWalk.i64_in _ (by omega)
            have hi6 : (0 : Int) ≤ (k : Int) + dd := hin2.1
            have hi7 : (k : Int) + dd < m1 := by omega
            go_wp2
            go_quiet (first | (go_at_call 91; exact Calls.quiet_of_same ((l01In_any _ _ _ _).mono fun _ _ h => ⟨h.1, h.2.symm⟩)))
            go_wp2
            all_goals first | (exfalso; have h9 : inR ((k : Int) + dd) 0 ((m1 : Int) - 1) = false := by assumption
                               rw [hin] at h9; cases h9; done) | skip
            go_quiet (fail)
            go_wp2
            go_roundw
            case rel => exact ⟨i + 1, _, by omega, by go_num, by rw [HBS.out], by rw [HW.out]; (try simp only [World.drewN_drewN]); rfl⟩
            case measure => simp [intOf]; omega
          · have HBS := Lib.hid (HOUT.out hin)
            have e5 : IntKind.i64.wrap ((k : Int) + dd) = (k : Int) + dd := IntWalk.i64_in _ (by omega)
            have e6 : IntKind.i64.wrap ((m1 : Int) - 1) = (m1 : Int) - 1 := IntWalk.i64_in _ (by omega)
            clear HIN HOUT
            go_wp2
            go_quiet (first | (go_at_call 91; exact Calls.quiet_of_same ((l01In_any _ _ _ _).mono fun _ _ h => ⟨h.1, h.2.symm⟩)))
            go_wp2
            all_goals first | (exfalso; have h9 : inR ((k : Int) + dd) 0 ((m1 : Int) - 1) = true := by assumption
                               rw [hin] at h9; cases h9; done) | skip
            go_roundw
            case rel => exact ⟨i + 1, _, by omega, by go_num, by rw [HBS.out], by rw [HW.out]; (try simp only [World.drewN_drewN]); rfl⟩
            case measure => simp [intOf]; omega
        · obtain rfl : i = n := by omega
          have hkl := bTo_len rows ds k
          have hs9 := bTo_snoc rows ds k
          rw [HN.out] at hs9
          have HS := Lib.hid hs9
          clear hs9
          have hwr2 := HW.out
          subst hwr2
          clear HW
          go_wp2_with (first | (at_builtin; refine app_int rfl _ _ rfl w.heap.size _ (bTo rows ds k) rfl (OwnV.alloc (OwnV.drewN HO.out m) _) _ _ rfl (cell_new1 _ _) (by omega) (by have hsz := hbel.size; (try simp only [World.size_alloc, World.size_drew]); exact Nat.le_trans hsz (by first | exact Nat.le_refl _ | exact Nat.le_succ _ | (simp; omega))) ?_; intro g cap w2 hown2 hb2))
          go_roundw
          case rel => exact ⟨k + 1, by omega, by go_num, by show OwnV _ _ _ _; rw [← HS.out]; rw [hkl] at hown2; exact hown2, below_app hbel hb2⟩
          case measure => simp [intOf]; omega
    · obtain rfl : k = m0 := by omega
      have HE : Hid (bTo rows ds k = bVal rows ds) := by show _ = _; unfold bTo bVal; rw [HML.out]
      have ho := HO.out
      rw [HE.out] at ho
      obtain ⟨A9, c9, rfl, hR⟩ := ho.R
      have hl : (bVal rows ds).length = k := bVal_len HML.out
      rw [hl] at hR ⊢
      clear HO ho hl
      go_wp2
      go_ret
      exact ⟨A9, c9, rfl, hR, hbel⟩
end Go.Proofs.Ytfmhbphbgdijpaa
