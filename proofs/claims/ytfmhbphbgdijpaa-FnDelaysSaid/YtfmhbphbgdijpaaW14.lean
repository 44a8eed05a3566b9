/- walks: DelayErrors -/
import Derived.Test.YtfmhbphbgdijpaaW13
import Derived.Test.YtfmhbphbgdijpaaMark
set_option linter.unusedVariables false
set_option linter.unusedSimpArgs false
namespace Go.Proofs.Ytfmhbphbgdijpaa
open Go.RowKit

theorem grown_drew {w w2 : World} {g : Option Nat} (h : w.grownBy w2 g) : w.grownBy w2.drew g := ⟨h.os, h.tape, h.output, h.size, h.block⟩

theorem iCeil_any (a b : Int) (w : World) (ha : -100000000000000000 ≤ a ∧ a ≤ 100000000000000000) (hb0 : 0 < b) (hb : b ≤ 1000000000000000000) :
    Calls Try.prog 89 #[.int .i64 a, .int .i64 b] w fun en w9 => en = .returned (.int .i64 (-((-a) / b))) ∧ w = w9 := by
  have h0 : -1000000000000000000 ≤ -a ∧ -a ≤ 1000000000000000000 := by omega
  have hd := ediv_bd hb0 h0 (by omega)
  go_enter Try.func89, Try.ntmps89
  go_wp2_with (first | (go_at_call 101; refine (iFloor_any _ _ _ (by first | assumption | omega) (by first | assumption | omega) (by first | assumption | omega)).mono ?_; rintro en w1 ⟨rfl, rfl⟩))
  go_ret
  exact ⟨rfl, rfl⟩

theorem sCeil_any (a b : Int) (w : World) (ha : -100000000000000000 ≤ a ∧ a ≤ 100000000000000000) (hb0 : 0 < b) (hb : b ≤ 1000000000000000000) :
    Calls Try.prog 88 #[.int .i64 a, .int .i64 b] w fun en w9 => en = .returned (.int .i64 (-((-a) / b))) ∧ w = w9 := by
  have h0 : -1000000000000000000 ≤ -a ∧ -a ≤ 1000000000000000000 := by omega
  have hd := ediv_bd hb0 h0 (by omega)
  go_enter Try.func88, Try.ntmps88
  go_wp2_with (first | (go_at_call 100; refine (sFloor_any _ _ _ (by first | assumption | omega) (by first | assumption | omega) (by first | assumption | omega)).mono ?_; rintro en w1 ⟨rfl, rfl⟩))
  go_ret
  exact ⟨rfl, rfl⟩

set_option maxRecDepth 100000 in
set_option maxHeartbeats 8000000 in
/-- the errors are laid over the delays -/
theorem iDe_any (A : Option Addr) (n c : Nat) (xs : List Int) (cc s h r v : Int) (w : World) (hn : xs.length = n) (hnc : n ≤ c) (hm : n ≤ 1048576) (hr : Rd w A xs) :
    Calls Try.prog 41 #[.slice A n c, .agg #[.int .i64 cc, .int .i64 s, .int .i64 h], .int .i64 r, .int .i64 v] w fun en w9 => ∃ A9 c9, en = .returned (.tuple #[.slice A9 (deVal xs cc s h r v).length c9, .int .i64 (wvCode xs cc s h r v)]) ∧ OwnR w9 w.heap.size A9 (deVal xs cc s h r v).length c9 (deVal xs cc s h r v) ∧ Below w.heap.size w w9 := by
  have HR := Lib.hid hr
  have HN := Lib.hid hn
  clear hr hn
  go_enter Try.func41, Try.ntmps41
  go_wp2_with fail
  have hB0 : Below w.heap.size w (w.alloc (.cells #[.int .i64 cc, .int .i64 s, .int .i64 h] 42)) := by go_grown
  have c0 : (w.alloc (.cells #[.int .i64 cc, .int .i64 s, .int .i64 h] 42)).cell? ⟨w.heap.size, 0, none⟩ = some (.int .i64 cc) := by go_simp
  have c1 : (w.alloc (.cells #[.int .i64 cc, .int .i64 s, .int .i64 h] 42)).cell? ⟨w.heap.size, 1, none⟩ = some (.int .i64 s) := by go_simp
  have c2 : (w.alloc (.cells #[.int .i64 cc, .int .i64 s, .int .i64 h] 42)).cell? ⟨w.heap.size, 2, none⟩ = some (.int .i64 h) := by go_simp
  generalize w.alloc (.cells #[.int .i64 cc, .int .i64 s, .int .i64 h] 42) = w1 at hB0 c0 c1 c2 ⊢
  have HR1 : Hid (Rd w1 A xs) := HR.out.below hB0
  have hz1 := hB0.size
  clear HR
  refine (iWc_any A n c xs cc s h r v _ HN.out hnc hm HR1.out).mono ?_
  rintro en w2 ⟨rfl, hb2⟩
  have HR2 : Hid (Rd w2 A xs) := HR1.out.below hb2
  have d0 := later hb2 c0
  have d1 := later hb2 c1
  have d2 := later hb2 c2
  have hB2 := bseq hB0 hb2
  have hz2 := hb2.size
  clear HR1 c0 c1 c2
  by_cases hz : wvCode xs cc s h r v = 0
  rotate_left
  · have hne : (wvCode xs cc s h r v != 0) = true := by simpa using hz
    have HV : Hid (deVal xs cc s h r v = []) := by show _ = _; simp [deVal, hz]
    clear hz
    go_wp2
    go_ret2
    exact ⟨none, 0, by rw [HV.out]; rfl, by rw [HV.out]; exact ⟨rfl, Nat.le_refl _, .inl ⟨rfl, rfl⟩⟩, hB2⟩
  obtain ⟨hl, hxb, hcb, hsb, hhb, hrb, hvb⟩ := wvCode_zero hz
  rw [HN.out] at hl
  have HB := Lib.hid hxb
  have HV : Hid (deVal xs cc s h r v = dErrs xs (10 * r * s) (h * v)) := by show _ = _; simp [deVal, hz]
  have HL : Hid ((dErrs xs (10 * r * s) (h * v)).length = n) := by show _ = _; rw [dErrs_len, HN.out]
  have hne : (wvCode xs cc s h r v != 0) = false := by simp [hz]
  have HZ := Lib.hid hz
  clear hxb hz
  go_wp2_with fail
  refine (newW_any cc s h r v _ hrb hsb hhb hvb).mono ?_
  rintro en w3 ⟨rfl, hb3⟩
  have HR3 : Hid (Rd w3 A xs) := HR2.out.below hb3
  have hB3 := bseq hB2 hb3
  have hz3 := hb3.size
  clear HR2 d0 d1 d2
  have hnum := num_bd hrb hsb
  have hden := den_bd hhb hvb
  obtain ⟨num, hnu⟩ : ∃ num, num = 10 * r * s := ⟨_, rfl⟩
  obtain ⟨den, hde⟩ : ∃ den, den = h * v := ⟨_, rfl⟩
  rw [← hnu, ← hde] at HV HL
  rw [← hnu] at hnum
  rw [← hde] at hden
  rw [← hnu, ← hde]
  clear hnu hde
  go_wp2_with fail
  have hB4 : Below w3.heap.size w3 (w3.alloc (.cells #[.int .i64 num, .int .i64 den] 87)) := by go_grown
  have b0 : (w3.alloc (.cells #[.int .i64 num, .int .i64 den] 87)).cell? ⟨w3.heap.size, 0, none⟩ = some (.int .i64 num) := by go_simp
  have b1 : (w3.alloc (.cells #[.int .i64 num, .int .i64 den] 87)).cell? ⟨w3.heap.size, 1, none⟩ = some (.int .i64 den) := by go_simp
  generalize w3.alloc (.cells #[.int .i64 num, .int .i64 den] 87) = w4 at hB4 b0 b1 ⊢
  have HR4 : Hid (Rd w4 A xs) := HR3.out.below hB4
  have hz4 := hB4.size
  have lb4 := World.block_lt_of_cell? w4 _ b0
  dsimp only at lb4
  clear HR3
  refine (iDly_any num den A n c xs _ HN.out (by omega) HB hnum hden HR4.out).mono ?_
  rintro en w5 ⟨A9, c9, rfl, hR, hb5⟩
  have hB5 : Below w.heap.size w w5 := bseq (bseq hB3 hB4) hb5
  have e0 := later hb5 b0
  have e1 := later hb5 b1
  have hz5 := hb5.size
  clear b0 b1
  rcases hR.2.2 with ⟨_, h0⟩ | ⟨g, hg, hgB, hgl, hcs⟩
  · exfalso; omega
  subst hg
  have hnc9 := hR.2.1
  rw [← eMix_zero] at hcs
  have HS := Lib.hid hcs
  clear hR hcs
  rcases HR4.out with h0 | ⟨b, off, hA, hc⟩
  · exfalso; have h1 := HN.out; rw [h0] at h1; simp at h1; omega
  subst hA
  have hbl : b < w4.heap.size := World.block_lt_of_cell? w4 _ (hc 0 (by rw [HN.out]; omega))
  have HC : Hid (∀ k, k < xs.length → w5.cell? ⟨b, off + k, none⟩ = some (.int .i64 (xs.getD k 0))) := fun k hk => later hb5 (hc k hk)
  clear hc HR4
  have hbg : ¬ b = g := by omega
  have hbg2 : ¬ g = b := by omega
  have hg3 : ¬ w3.heap.size = g := by omega
  have hg4 : ¬ g = w3.heap.size := by omega
  go_wp2
  go_loopw [13, 14, 32] (fun _ _ i wr => ∃ k : Nat, k ≤ n ∧ i = .int .i64 (k : Int) ∧ Hid (Cells wr g 0 (eMix xs num den k)) ∧ Hid (w5.grownBy wr (some g))) (fun _ _ i _ => n - (intOf i).toNat)
  case atStart => exact ⟨0, Nat.zero_le _, rfl, HS, World.grownBy.refl _ _⟩
  case round =>
    obtain ⟨k, hk, rfl, HK, HG⟩ := hrel
    by_cases hlt : k < n
    · have hkx : k < xs.length := by rw [HN.out]; exact hlt
      have hx := HG.out.cell (HC.out k hkx) (fun e => hbg (by injection e))
      have f0 := HG.out.cell e0 (fun e => hg3 (by injection e))
      have f1 := HG.out.cell e1 (fun e => hg3 (by injection e))
      have hxb := HB.out k
      have hlen : k < (eMix xs num den k).length := by rw [eMix_len (by omega)]; exact hkx
      have hy := HK.out.1 k hlen
      have hf := HK.out.2 k hlen
      rw [eMix_at hkx] at hy
      simp only [Nat.zero_add] at hy hf
      have HP : Hid (∀ z : Int, z = eVal (xs.getD k 0) num den → Cells (wr.setCell ⟨g, k, none⟩ (.int .i64 z)) g 0 (eMix xs num den (k + 1))) := by
        show ∀ z, _
        intro z hz
        have h2 := HK.out.put k z hlen
        rw [Nat.zero_add, hz, eMix_set hkx, ← hz] at h2
        exact h2
      have HG2 : Hid (∀ z : Int, w5.grownBy (wr.setCell ⟨g, k, none⟩ (.int .i64 z)) (some g)) := fun z => grown_set HG.out
      obtain ⟨x, hxx⟩ : ∃ x, x = xs.getD k 0 := ⟨_, rfl⟩
      rw [← hxx] at hx hxb hy HP
      clear hxx hlen hkx
      have m1 := bd_mul (a := x) (b := num) (A := 10000) (B := 1000000000) hxb hnum
      have m2 := near_err (a := x * num) (b := den) (by omega)
      have HE : Hid (∀ q, q = near (x * num) den → eVal x num den = -((-(1000 * iabs (x * num - q * den))) / den)) := by
        show ∀ q, _
        intro q hq; rw [hq]; rfl
      obtain ⟨q, hq⟩ : ∃ q, q = near (x * num) den := ⟨_, rfl⟩
      have HE2 := Lib.hid (HE.out q hq)
      rw [← hq] at hy m2
      clear hq HE
      have x0 : IntKind.i64.wrap (x * num) = x * num := IntWalk.i64_in _ (by omega)
      have x1 : IntKind.i64.wrap (q * den) = q * den := IntWalk.i64_in _ (by omega)
      have x2 : IntKind.i64.wrap (x * num - q * den) = x * num - q * den := IntWalk.i64_in _ (by omega)
      have m3 : 0 ≤ iabs (x * num - q * den) ∧ 2 * iabs (x * num - q * den) ≤ den := by unfold iabs; omega
      have x3 : IntKind.i64.wrap (1000 * iabs (x * num - q * den)) = 1000 * iabs (x * num - q * den) := IntWalk.i64_in _ (by omega)
      have hi0 : (k : Int) < n := by omega
      go_wp2
      go_region_held3 (fun w9 => w9.cell? ⟨b, off + k, none⟩ = some (.int .i64 x) ∧ w9.cell? ⟨w3.heap.size, 0, none⟩ = some (.int .i64 num) ∧ w9.cell? ⟨w3.heap.size, 1, none⟩ = some (.int .i64 den)) (first | with_reducible assumption | go_keep) (first | (go_at_call 90; refine (iAbs_any (x * num - q * den) _ (by omega) (by omega)).mono ?_; rintro en wq ⟨rfl, rfl⟩) | (go_at_call 89; refine (iCeil_any (1000 * iabs (x * num - q * den)) den _ (by omega) (by omega) (by omega)).mono ?_; rintro en wq ⟨rfl, rfl⟩))
      all_goals go_wp2
      all_goals go_roundw
      case rel => exact ⟨k + 1, by omega, by go_num, (HP.out _ HE2.out.symm).below (Below.drew (Below.refl _ _)), grown_drew (HG2.out _)⟩
      case measure => simp [intOf]; omega
    · obtain rfl : k = n := by omega
      have HE : Hid (eMix xs num den k = dErrs xs num den) := eMix_all HN.out
      have hc9 := HK.out
      rw [HE.out] at hc9
      have HC9 := Lib.hid hc9
      clear hc9
      go_wp2
      go_ret2
      exact ⟨some ⟨g, 0, none⟩, c9, by rw [HV.out, HL.out, HZ.out]; rfl, by rw [HV.out, HL.out]; exact ⟨HL.out, hnc9, .inr ⟨g, rfl, by omega, Nat.lt_of_lt_of_le hgl HG.out.size, HC9.out⟩⟩, hB5.grown HG.out (by omega) (fun k hk => by injection hk; omega)⟩
end Go.Proofs.Ytfmhbphbgdijpaa
