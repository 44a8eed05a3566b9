/- walks: DelaysOf -/
import Derived.Test.YtfmhbphbgdijpaaW12
set_option linter.unusedVariables false
set_option linter.unusedSimpArgs false
namespace Go.Proofs.Ytfmhbphbgdijpaa
open Go.RowKit

set_option maxHeartbeats 8000000 in
theorem iDl_any (A : Option Addr) (n c : Nat) (xs : List Int) (cc s h r v : Int) (w : World) (hn : xs.length = n) (hnc : n ≤ c) (hm : n ≤ 1048576) (hr : Rd w A xs) :
    Calls Try.prog 30 #[.slice A n c, .agg #[.int .i64 cc, .int .i64 s, .int .i64 h], .int .i64 r, .int .i64 v] w fun en w9 => ∃ A9 c9, en = .returned (.tuple #[.slice A9 (dlVal xs cc s h r v).length c9, .int .i64 (wvCode xs cc s h r v)]) ∧ OwnR w9 w.heap.size A9 (dlVal xs cc s h r v).length c9 (dlVal xs cc s h r v) ∧ Below w.heap.size w w9 := by
  have HR := Lib.hid hr
  have HN := Lib.hid hn
  clear hr hn
  go_enter Try.func30, Try.ntmps30
  go_wp2_with fail
  have hB0 : Below w.heap.size w (w.alloc (.cells #[.int .i64 cc, .int .i64 s, .int .i64 h] 42)) := by go_grown
  have c0 : (w.alloc (.cells #[.int .i64 cc, .int .i64 s, .int .i64 h] 42)).cell? ⟨w.heap.size, 0, none⟩ = some (.int .i64 cc) := by go_simp
  have c1 : (w.alloc (.cells #[.int .i64 cc, .int .i64 s, .int .i64 h] 42)).cell? ⟨w.heap.size, 1, none⟩ = some (.int .i64 s) := by go_simp
  have c2 : (w.alloc (.cells #[.int .i64 cc, .int .i64 s, .int .i64 h] 42)).cell? ⟨w.heap.size, 2, none⟩ = some (.int .i64 h) := by go_simp
  generalize w.alloc (.cells #[.int .i64 cc, .int .i64 s, .int .i64 h] 42) = w1 at hB0 c0 c1 c2 ⊢
  have HR1 : Hid (Rd w1 A xs) := HR.out.below hB0
  have hz1 := hB0.size
  clear HR
  refine (iWc_any A n c xs cc s h r v _ HN.out hnc hm HR1.out).mono ?_
  rintro en w2 ⟨rfl, hb2⟩
  have HR2 : Hid (Rd w2 A xs) := HR1.out.below hb2
  have d0 := later hb2 c0
  have d1 := later hb2 c1
  have d2 := later hb2 c2
  have hB2 := bseq hB0 hb2
  have hz2 := hb2.size
  clear HR1 c0 c1 c2
  by_cases hz : wvCode xs cc s h r v = 0
  · obtain ⟨hl, hxb, hcb, hsb, hhb, hrb, hvb⟩ := wvCode_zero hz
    rw [HN.out] at hl
    have HB := Lib.hid hxb
    have HV : Hid (dlVal xs cc s h r v = dlys xs (10 * r * s) (h * v)) := by show _ = _; simp [dlVal, hz]
    have HL : Hid ((dlys xs (10 * r * s) (h * v)).length = n) := by show _ = _; rw [dlys_len, HN.out]
    have hne : (wvCode xs cc s h r v != 0) = false := by simp [hz]
    have HZ := Lib.hid hz
    clear hxb hz
    go_wp2_with fail
    refine (newW_any cc s h r v _ hrb hsb hhb hvb).mono ?_
    rintro en w3 ⟨rfl, hb3⟩
    have HR3 : Hid (Rd w3 A xs) := HR2.out.below hb3
    have hB3 := bseq hB2 hb3
    have hz3 := hb3.size
    clear HR2
    go_wp2_with fail
    refine (iDly_any (10 * r * s) (h * v) A n c xs _ HN.out (by omega) HB (num_bd hrb hsb) (den_bd hhb hvb) HR3.out).mono ?_
    rintro en w4 ⟨A9, c9, rfl, hR, hb4⟩
    have hB4 := bseq hB3 hb4
    go_wp2
    go_ret2
    exact ⟨A9, c9, by rw [HV.out, HL.out, HZ.out]; rfl, by rw [HV.out, HL.out]; exact hR.lowB (by omega), hB4⟩
  · have hne : (wvCode xs cc s h r v != 0) = true := by simpa using hz
    have HV : Hid (dlVal xs cc s h r v = []) := by show _ = _; simp [dlVal, hz]
    clear hz
    go_wp2
    go_ret2
    exact ⟨none, 0, by rw [HV.out]; rfl, by rw [HV.out]; exact ⟨rfl, Nat.le_refl _, .inl ⟨rfl, rfl⟩⟩, hB2⟩

set_option maxHeartbeats 8000000 in
theorem sDl_any (A : Option Addr) (n c : Nat) (xs : List Int) (cc s h r v : Int) (w : World) (hn : xs.length = n) (hnc : n ≤ c) (hm : n ≤ 1048576) (hr : Rd w A xs) :
    Calls Try.prog 38 #[.slice A n c, .agg #[.int .i64 cc, .int .i64 s, .int .i64 h], .int .i64 r, .int .i64 v] w fun en w9 => ∃ A9 c9, en = .returned (.tuple #[.slice A9 (dlVal xs cc s h r v).length c9, .int .i64 (wvCode xs cc s h r v)]) ∧ OwnR w9 w.heap.size A9 (dlVal xs cc s h r v).length c9 (dlVal xs cc s h r v) ∧ Below w.heap.size w w9 := by
  have HR := Lib.hid hr
  have HN := Lib.hid hn
  clear hr hn
  go_enter Try.func38, Try.ntmps38
  go_wp2_with fail
  have hB0 : Below w.heap.size w (w.alloc (.cells #[.int .i64 cc, .int .i64 s, .int .i64 h] 42)) := by go_grown
  have c0 : (w.alloc (.cells #[.int .i64 cc, .int .i64 s, .int .i64 h] 42)).cell? ⟨w.heap.size, 0, none⟩ = some (.int .i64 cc) := by go_simp
  have c1 : (w.alloc (.cells #[.int .i64 cc, .int .i64 s, .int .i64 h] 42)).cell? ⟨w.heap.size, 1, none⟩ = some (.int .i64 s) := by go_simp
  have c2 : (w.alloc (.cells #[.int .i64 cc, .int .i64 s, .int .i64 h] 42)).cell? ⟨w.heap.size, 2, none⟩ = some (.int .i64 h) := by go_simp
  generalize w.alloc (.cells #[.int .i64 cc, .int .i64 s, .int .i64 h] 42) = w1 at hB0 c0 c1 c2 ⊢
  have HR1 : Hid (Rd w1 A xs) := HR.out.below hB0
  have hz1 := hB0.size
  clear HR
  refine (sWc_any A n c xs cc s h r v _ HN.out hnc hm HR1.out).mono ?_
  rintro en w2 ⟨rfl, hb2⟩
  have HR2 : Hid (Rd w2 A xs) := HR1.out.below hb2
  have d0 := later hb2 c0
  have d1 := later hb2 c1
  have d2 := later hb2 c2
  have hB2 := bseq hB0 hb2
  have hz2 := hb2.size
  clear HR1 c0 c1 c2
  by_cases hz : wvCode xs cc s h r v = 0
  · obtain ⟨hl, hxb, hcb, hsb, hhb, hrb, hvb⟩ := wvCode_zero hz
    rw [HN.out] at hl
    have HB := Lib.hid hxb
    have HV : Hid (dlVal xs cc s h r v = dlys xs (10 * r * s) (h * v)) := by show _ = _; simp [dlVal, hz]
    have HL : Hid ((dlys xs (10 * r * s) (h * v)).length = n) := by show _ = _; rw [dlys_len, HN.out]
    have hne : (wvCode xs cc s h r v != 0) = false := by simp [hz]
    have HZ := Lib.hid hz
    clear hxb hz
    go_wp2_with fail
    refine (sDly_any A n c xs cc s h r v _ HN.out (by omega) HB hsb hhb hrb hvb HR2.out).mono ?_
    rintro en w4 ⟨A9, c9, rfl, hR, hb4⟩
    have hB4 := bseq hB2 hb4
    go_wp2
    go_ret2
    exact ⟨A9, c9, by rw [HV.out, HL.out, HZ.out]; rfl, by rw [HV.out, HL.out]; exact hR.lowB (by omega), hB4⟩
  · have hne : (wvCode xs cc s h r v != 0) = true := by simpa using hz
    have HV : Hid (dlVal xs cc s h r v = []) := by show _ = _; simp [dlVal, hz]
    clear hz
    go_wp2
    go_ret2
    exact ⟨none, 0, by rw [HV.out]; rfl, by rw [HV.out]; exact ⟨rfl, Nat.le_refl _, .inl ⟨rfl, rfl⟩⟩, hB2⟩
end Go.Proofs.Ytfmhbphbgdijpaa
