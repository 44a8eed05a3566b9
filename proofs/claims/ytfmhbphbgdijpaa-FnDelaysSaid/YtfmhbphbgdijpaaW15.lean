/- walks: DelayErrors, the reference -/
import Derived.Test.YtfmhbphbgdijpaaW13
import Derived.Test.YtfmhbphbgdijpaaW14
import Derived.Deep.QuietTactic
import Derived.BigQuiet
set_option linter.unusedVariables false
set_option linter.unusedSimpArgs false
namespace Go.Proofs.Ytfmhbphbgdijpaa
open Go.RowKit

set_option maxRecDepth 100000 in
set_option maxHeartbeats 8000000 in
theorem sDe_any (A : Option Addr) (n c : Nat) (xs : List Int) (cc s h r v : Int) (w : World) (hn : xs.length = n) (hnc : n ≤ c) (hm : n ≤ 1048576) (hr : Rd w A xs) :
    Calls Try.prog 40 #[.slice A n c, .agg #[.int .i64 cc, .int .i64 s, .int .i64 h], .int .i64 r, .int .i64 v] w fun en w9 => ∃ A9 c9, en = .returned (.tuple #[.slice A9 (deVal xs cc s h r v).length c9, .int .i64 (wvCode xs cc s h r v)]) ∧ OwnR w9 w.heap.size A9 (deVal xs cc s h r v).length c9 (deVal xs cc s h r v) ∧ Below w.heap.size w w9 := by
  have HR := Lib.hid hr
  have HN := Lib.hid hn
  clear hr hn
  go_enter Try.func40, Try.ntmps40
  go_wp2_with fail
  have hB0 : Below w.heap.size w (w.alloc (.cells #[.int .i64 cc, .int .i64 s, .int .i64 h] 42)) := by go_grown
  have c0 : (w.alloc (.cells #[.int .i64 cc, .int .i64 s, .int .i64 h] 42)).cell? ⟨w.heap.size, 0, none⟩ = some (.int .i64 cc) := by go_simp
  have c1 : (w.alloc (.cells #[.int .i64 cc, .int .i64 s, .int .i64 h] 42)).cell? ⟨w.heap.size, 1, none⟩ = some (.int .i64 s) := by go_simp
  have c2 : (w.alloc (.cells #[.int .i64 cc, .int .i64 s, .int .i64 h] 42)).cell? ⟨w.heap.size, 2, none⟩ = some (.int .i64 h) := by go_simp
  generalize w.alloc (.cells #[.int .i64 cc, .int .i64 s, .int .i64 h] 42) = w1 at hB0 c0 c1 c2 ⊢
  have HR1 : Hid (Rd w1 A xs) := HR.out.below hB0
  have hz1 := hB0.size
  clear HR
  refine (sWc_any A n c xs cc s h r v _ HN.out hnc hm HR1.out).mono ?_
  rintro en w2 ⟨rfl, hb2⟩
  have HR2 : Hid (Rd w2 A xs) := HR1.out.below hb2
  have d0 := later hb2 c0
  have d1 := later hb2 c1
  have d2 := later hb2 c2
  have hB2 := bseq hB0 hb2
  have hz2 := hb2.size
  clear HR1 c0 c1 c2
  by_cases hz : wvCode xs cc s h r v = 0
  rotate_left
  · have hne : (wvCode xs cc s h r v != 0) = true := by simpa using hz
    have HV : Hid (deVal xs cc s h r v = []) := by show _ = _; simp [deVal, hz]
    clear hz
    go_wp2
    go_ret2
    exact ⟨none, 0, by rw [HV.out]; rfl, by rw [HV.out]; exact ⟨rfl, Nat.le_refl _, .inl ⟨rfl, rfl⟩⟩, hB2⟩
  obtain ⟨hl, hxb, hcb, hsb, hhb, hrb, hvb⟩ := wvCode_zero hz
  rw [HN.out] at hl
  have HB := Lib.hid hxb
  have HV : Hid (deVal xs cc s h r v = dErrs xs (10 * r * s) (h * v)) := by show _ = _; simp [deVal, hz]
  have HL : Hid ((dErrs xs (10 * r * s) (h * v)).length = n) := by show _ = _; rw [dErrs_len, HN.out]
  have hne : (wvCode xs cc s h r v != 0) = false := by simp [hz]
  have HZ := Lib.hid hz
  clear hxb hz
  go_wp2_with fail
  refine (sDly_any A n c xs cc s h r v _ HN.out (by omega) HB hsb hhb hrb hvb HR2.out).mono ?_
  rintro en w3 ⟨A9, c9, rfl, hR, hb3⟩
  have HR3 : Hid (Rd w3 A xs) := HR2.out.below hb3
  have hB3 := bseq hB2 hb3
  have hz3 := hb3.size
  have e0 := later hb3 d0
  have e1 := later hb3 d1
  have e2 := later hb3 d2
  clear HR2 d0 d1 d2
  have hnum := num_bd hrb hsb
  have hden := den_bd hhb hvb
  rcases hR.rd with h0 | ⟨g, go, hg, hcs⟩
  · exfalso; have h1 := dlys_len xs (10 * r * s) (h * v); rw [h0, HN.out] at h1; simp at h1; omega
  subst hg
  rcases HR3.out with h0 | ⟨b, off, hA, hc⟩
  · exfalso; have h1 := HN.out; rw [h0] at h1; simp at h1; omega
  subst hA
  have HC := Lib.hid hc
  have HCS := Lib.hid hcs
  clear hc hcs HR3 hR
  go_wp2
  go_loopw [12, 13] (fun u i wr => ∃ k : Nat, k ≤ n ∧ i = .int .i64 (k : Int) ∧ Hid (OwnV wr w3.heap.size u (dErrsTo xs (10 * r * s) (h * v) k)) ∧ Below w3.heap.size w3 wr) (fun _ i _ => n - (intOf i).toNat)
  case atStart => exact ⟨0, Nat.zero_le _, rfl, OwnV.empty _ _ (Nat.le_refl _), by go_grown⟩
  case round =>
    obtain ⟨k, hk, rfl, HO, hbel⟩ := hrel
    by_cases hlt : k < n
    · have hkx : k < xs.length := by rw [HN.out]; exact hlt
      have hx := later hbel (HC.out k hkx)
      have hy := later hbel (HCS.out k (by rw [dlys_len]; exact hkx))
      have f1 := later hbel e1
      have f2 := later hbel e2
      rw [dlys_at hkx] at hy
      have hxb := HB.out k
      have hkl := dErrsTo_len (xs := xs) (num := 10 * r * s) (den := h * v) (k := k) (by omega)
      have HS := Lib.hid (dErrsTo_snoc (xs := xs) (num := 10 * r * s) (den := h * v) (k := k) hkx)
      obtain ⟨x, hxx⟩ : ∃ x, x = xs.getD k 0 := ⟨_, rfl⟩
      rw [← hxx] at hx hxb hy HS
      clear hxx hkx
      have hi0 : (k : Int) < n := by omega
      have m1 := bd_mul (a := 10 * x) (b := r) (A := 100000) (B := 100000) (by omega) (by omega)
      have m2 := bd_mul (a := 10 * x * r) (b := s) (A := 10000000000) (B := 1000) (by omega) (by omega)
      have m4 := near_err (a := x * (10 * r * s)) (b := h * v) (by omega)
      rw [← mul_form] at hy m4
      have hqb := near_bd (a := 10 * x * r * s) (b := h * v) (M := 10000000000000) (by omega) (by omega) (by omega)
      have HE : Hid (∀ q, q = near (10 * x * r * s) (h * v) → eVal x (10 * r * s) (h * v) = -((-(1000 * iabs (10 * x * r * s - q * h * v))) / (h * v))) := by
        show ∀ q, _
        intro q hq; rw [hq]; unfold eVal; rw [← mul_form, Int.mul_assoc (near _ _) h v]
      obtain ⟨q, hq⟩ : ∃ q, q = near (10 * x * r * s) (h * v) := ⟨_, rfl⟩
      have HE2 := Lib.hid (HE.out q hq)
      rw [← hq] at hy m4 hqb
      clear hq HE
      rw [← Int.mul_assoc q h v] at m4
      have m5 := bd_mul (a := q) (b := h) (A := 10000000000001) (B := 1000) (by omega) (by omega)
      have x0 : IntKind.i64.wrap (10 * x) = 10 * x := IntWalk.i64_in _ (by omega)
      have x1 : IntKind.i64.wrap (10 * x * r) = 10 * x * r := IntWalk.i64_in _ (by omega)
      have x2 : IntKind.i64.wrap (10 * x * r * s) = 10 * x * r * s := IntWalk.i64_in _ (by omega)
      have x3 : IntKind.i64.wrap (q * h) = q * h := IntWalk.i64_in _ (by omega)
      have x4 : IntKind.i64.wrap (q * h * v) = q * h * v := IntWalk.i64_in _ (by omega)
      have x5 : IntKind.i64.wrap (10 * x * r * s - q * h * v) = 10 * x * r * s - q * h * v := IntWalk.i64_in _ (by omega)
      obtain ⟨Z, hZ⟩ : ∃ Z, Z = iabs (10 * x * r * s - q * h * v) := ⟨_, rfl⟩
      have m6 : 0 ≤ Z ∧ 2 * Z ≤ h * v := by rw [hZ]; unfold iabs; omega
      have qa : ∀ w : World, Calls Try.prog 87 #[.int .i64 (10 * x * r * s - q * h * v)] w fun en w9 => en = .returned (.int .i64 Z) ∧ w9 = w := fun w => (sAbs_any (10 * x * r * s - q * h * v) w (by omega) (by omega)).mono fun _ _ q => ⟨by rw [q.1, hZ], q.2.symm⟩
      rw [← hZ] at HE2
      rw [HE2.out] at HS
      clear hZ HE2
      go_wp2
      go_quiet (first | (go_at_call 87; with_reducible exact Calls.quiet_of_same (qa _)))
      go_wp2_with (first | (go_at_call 88; refine (sCeil_any (1000 * Z) (h * v) _ (by omega) (by omega) (by omega)).mono ?_; rintro en wq ⟨rfl, rfl⟩) | (at_builtin; refine app_int rfl _ _ rfl w3.heap.size _ (dErrsTo xs (10 * r * s) (h * v) k) rfl (OwnV.alloc (OwnV.drewN HO.out _) _) _ _ rfl (cell_new1 _ _) (by omega) (by have hsz := hbel.size; (try simp only [World.size_alloc, World.size_drew, size_drewN]); omega) ?_; intro g cap w2 hown2 hb2))
      go_roundw
      case rel => exact ⟨k + 1, by omega, by go_num, by show OwnV _ _ _ _; rw [← HS.out]; rw [hkl] at hown2; exact hown2, (Below.alloc (below_drewN hbel _) hbel.size _).trans hb2⟩
      case measure => simp [intOf]; omega
    · obtain rfl : k = n := by omega
      have HE : Hid (dErrsTo xs (10 * r * s) (h * v) k = dErrs xs (10 * r * s) (h * v)) := dErrsTo_all HN.out
      have ho := HO.out
      rw [HE.out] at ho
      obtain ⟨A8, c8, rfl, hR8⟩ := ho.R
      rw [HL.out] at hR8 ⊢
      have hB9 := bseq hB3 hbel
      clear HO ho
      go_wp2
      go_ret2
      exact ⟨A8, c8, by rw [HV.out, HL.out, HZ.out]; rfl, by rw [HV.out, HL.out]; exact hR8.lowB (by omega), hB9⟩
end Go.Proofs.Ytfmhbphbgdijpaa
