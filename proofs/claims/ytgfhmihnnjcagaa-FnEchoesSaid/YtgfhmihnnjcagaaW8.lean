/- walks: Correlations -/
import Derived.Test.YtgfhmihnnjcagaaOwn
import Derived.Test.YtgfhmihnnjcagaaW5
set_option linter.unusedVariables false
set_option linter.unusedSimpArgs false
namespace Go.Proofs.Ytgfhmihnnjcagaa
open Go.RowKit

def corrsTo (xs : List Int) (k : Nat) : List Int := (List.range k).map (corr xs)
theorem corrsTo_len (xs : List Int) (k : Nat) : (corrsTo xs k).length = k := by simp [corrsTo]
theorem corrsTo_snoc (xs : List Int) (k : Nat) : corrsTo xs k ++ [corr xs k] = corrsTo xs (k + 1) := by simp [corrsTo, List.range_succ]
def crVal (xs : List Int) : List Int := if isSig xs then corrsTo xs xs.length else []
def crCode (xs : List Int) : Int := if isSig xs then 0 else 1
theorem below_app {w wr w2 : World} {m : Nat} {o : Obj} (h : Below w.heap.size w wr) (hb : Below w.heap.size ((wr.drewN m).alloc o) w2) : Below w.heap.size w w2 :=
  (Below.alloc (below_drewN h m) h.size o).trans hb

set_option maxHeartbeats 2000000 in
theorem iCors_any (A : Option Addr) (n c : Nat) (xs : List Int) (w : World) (hn : xs.length = n) (hnc : n ≤ c) (hm : n ≤ 1048576) (hr : Rd w A xs) :
    Calls Try.prog 38 #[.slice A n c] w fun en w9 => ∃ A9 c9, en = .returned (.tuple #[.slice A9 (crVal xs).length c9, .int .i64 (crCode xs)]) ∧ OwnR w9 w.heap.size A9 (crVal xs).length c9 (crVal xs) ∧ Below w.heap.size w w9 := by
  rcases Bool.eq_false_or_eq_true (isSig xs) with h | h
  · have hs := isSig_iff.1 h
    have hl : n ≤ 400 := by rw [← hn]; exact hs.1
    have HB := Lib.hid hs.2
    clear hs
    have HV : Hid (crVal xs = corrsTo xs n ∧ crCode xs = 0) := by show _ ∧ _; simp [crVal, crCode, h, hn]
    go_enter Try.func38, Try.ntmps38
    go_wp2_with (first | (go_at_call 58; refine (iSig_any _ _ _ _ _ (by assumption) (by assumption) (by omega) (by first | assumption | exact Rd.drewN (by assumption) _ | exact Rd.drewN (Rd.drewN (by assumption) _) _)).mono ?_; rintro en w1 ⟨rfl, rfl⟩))
    go_loopw [4, 11] (fun v i wr => ∃ k : Nat, k ≤ n ∧ i = .int .i64 (k : Int) ∧ Hid (OwnV wr w.heap.size v (corrsTo xs k)) ∧ Below w.heap.size w wr) (fun _ i _ => n - (intOf i).toNat)
    case atStart => exact ⟨0, Nat.zero_le _, rfl, OwnV.none _ _, by go_grown⟩
    case round =>
      obtain ⟨k, hk, rfl, HO, hbel⟩ := hrel
      by_cases hlt : k < n
      · have hcd := corr_bd HB.out (by rw [hn]; exact hl) k
        have hr2 := hr.below hbel
        have hkl := corrsTo_len xs k
        have HS := Lib.hid (corrsTo_snoc xs k)
        go_wp2_with (first | (go_at_call 94; refine (iCorr_any _ _ _ _ _ _ (by assumption) (by omega) (by omega) (by assumption) (by first | assumption | exact Rd.drewN (by assumption) _ | exact Rd.drewN (Rd.drewN (by assumption) _) _)).mono ?_; rintro en w1 ⟨rfl, mq, rfl⟩) | (at_builtin; refine app_int rfl _ _ rfl w.heap.size _ (corrsTo xs k) rfl (OwnV.alloc (OwnV.drewN HO.out _) _) _ _ rfl (cell_new1 _ _) (by omega) (by have hsz := hbel.size; (try simp only [World.size_alloc, World.size_drew]); exact Nat.le_trans hsz (by first | exact Nat.le_refl _ | exact Nat.le_succ _ | (simp; omega))) ?_; intro g cap w2 hown2 hb2))
        go_roundw
        case rel => exact ⟨k + 1, by omega, by go_num, by show OwnV _ _ _ _; rw [← HS.out]; rw [hkl] at hown2; exact hown2, below_app hbel hb2⟩
        case measure => simp [intOf]; omega
      · obtain rfl : k = n := by omega
        obtain ⟨A9, c9, rfl, hR⟩ := HO.out.R
        clear HO
        go_wp2
        go_ret2
        exact ⟨A9, c9, by rw [HV.out.1, HV.out.2]; rfl, by rw [HV.out.1]; exact hR, hbel⟩
  · have HV : Hid (crVal xs = [] ∧ crCode xs = 1) := by show _ ∧ _; simp [crVal, crCode, h]
    go_enter Try.func38, Try.ntmps38
    go_wp2_with (first | (go_at_call 58; refine (iSig_any _ _ _ _ _ (by assumption) (by assumption) (by omega) (by first | assumption | exact Rd.drewN (by assumption) _ | exact Rd.drewN (Rd.drewN (by assumption) _) _)).mono ?_; rintro en w1 ⟨rfl, rfl⟩))
    go_ret2
    exact ⟨none, 0, by rw [HV.out.1, HV.out.2]; rfl, by rw [HV.out.1]; exact ⟨rfl, Nat.le_refl _, .inl ⟨rfl, rfl⟩⟩, by go_grown⟩

set_option maxHeartbeats 2000000 in
theorem sCors_any (A : Option Addr) (n c : Nat) (xs : List Int) (w : World) (hn : xs.length = n) (hnc : n ≤ c) (hm : n ≤ 1048576) (hr : Rd w A xs) :
    Calls Try.prog 37 #[.slice A n c] w fun en w9 => ∃ A9 c9, en = .returned (.tuple #[.slice A9 (crVal xs).length c9, .int .i64 (crCode xs)]) ∧ OwnR w9 w.heap.size A9 (crVal xs).length c9 (crVal xs) ∧ Below w.heap.size w w9 := by
  rcases Bool.eq_false_or_eq_true (isSig xs) with h | h
  · have hs := isSig_iff.1 h
    have hl : n ≤ 400 := by rw [← hn]; exact hs.1
    have HB := Lib.hid hs.2
    clear hs
    have HV : Hid (crVal xs = corrsTo xs n ∧ crCode xs = 0) := by show _ ∧ _; simp [crVal, crCode, h, hn]
    go_enter Try.func37, Try.ntmps37
    go_wp2_with (first | (go_at_call 85; refine (sSig_any _ _ _ _ _ (by assumption) (by assumption) (by omega) (by first | assumption | exact Rd.drewN (by assumption) _ | exact Rd.drewN (Rd.drewN (by assumption) _) _)).mono ?_; rintro en w1 ⟨rfl, rfl⟩))
    go_loopw [4, 5] (fun v i wr => ∃ k : Nat, k ≤ n ∧ i = .int .i64 (k : Int) ∧ Hid (OwnV wr w.heap.size v (corrsTo xs k)) ∧ Below w.heap.size w wr) (fun _ i _ => n - (intOf i).toNat)
    case atStart => exact ⟨0, Nat.zero_le _, rfl, (OwnV.empty _ _ (Nat.le_refl _)), by go_grown⟩
    case round =>
      obtain ⟨k, hk, rfl, HO, hbel⟩ := hrel
      by_cases hlt : k < n
      · have hcd := corr_bd HB.out (by rw [hn]; exact hl) k
        have hr2 := hr.below hbel
        have hkl := corrsTo_len xs k
        have HS := Lib.hid (corrsTo_snoc xs k)
        go_wp2_with (first | (go_at_call 93; refine (sCorr_any _ _ _ _ _ _ (by assumption) (by omega) (by omega) (by assumption) (by first | assumption | exact Rd.drewN (by assumption) _ | exact Rd.drewN (Rd.drewN (by assumption) _) _)).mono ?_; rintro en w1 ⟨rfl, mq, rfl⟩) | (at_builtin; refine app_int rfl _ _ rfl w.heap.size _ (corrsTo xs k) rfl (OwnV.alloc (OwnV.drewN HO.out _) _) _ _ rfl (cell_new1 _ _) (by omega) (by have hsz := hbel.size; (try simp only [World.size_alloc, World.size_drew]); exact Nat.le_trans hsz (by first | exact Nat.le_refl _ | exact Nat.le_succ _ | (simp; omega))) ?_; intro g cap w2 hown2 hb2))
        go_roundw
        case rel => exact ⟨k + 1, by omega, by go_num, by show OwnV _ _ _ _; rw [← HS.out]; rw [hkl] at hown2; exact hown2, below_app hbel hb2⟩
        case measure => simp [intOf]; omega
      · obtain rfl : k = n := by omega
        obtain ⟨A9, c9, rfl, hR⟩ := HO.out.R
        clear HO
        go_wp2
        go_ret2
        exact ⟨A9, c9, by rw [HV.out.1, HV.out.2]; rfl, by rw [HV.out.1]; exact hR, hbel⟩
  · have HV : Hid (crVal xs = [] ∧ crCode xs = 1) := by show _ ∧ _; simp [crVal, crCode, h]
    go_enter Try.func37, Try.ntmps37
    go_wp2_with (first | (go_at_call 85; refine (sSig_any _ _ _ _ _ (by assumption) (by assumption) (by omega) (by first | assumption | exact Rd.drewN (by assumption) _ | exact Rd.drewN (Rd.drewN (by assumption) _) _)).mono ?_; rintro en w1 ⟨rfl, rfl⟩))
    go_ret2
    exact ⟨none, 0, by rw [HV.out.1, HV.out.2]; rfl, by rw [HV.out.1]; exact ⟨rfl, Nat.le_refl _, .inl ⟨rfl, rfl⟩⟩, by go_grown⟩
end Go.Proofs.Ytgfhmihnnjcagaa
