/- walks: the source of numbers -/
import Derived.Test.YtoccglmlpobeeaaProg
import Derived.Test.YtoccglmlpobeeaaLists
import Derived.Test.YtoccglmlpobeeaaMem
import Derived.WalkKit
import Derived.WalkSpells
import Derived.WalkLawsBesides
import Derived.Handy
import Derived.Deep.RegionHeld3
import Derived.Lib.Hide
import Derived.Test.YtoccglmlpobeeaaSrc
import Derived.Deep.QuietTactic
import Derived.BigQuiet
import Derived.RegionTactic
import Derived.BigRegion
set_option linter.unusedVariables false
set_option linter.unusedSimpArgs false
namespace Go.Proofs.Ytoccglmlpobeeaa
open Go.RowKit

set_option maxHeartbeats 4000000 in
theorem next_any (s : Nat) (n : Int) (w : World) (h : Src w s) : Calls Try.prog 107 #[.pointer (some ⟨s, 0, none⟩), .int .i64 n] w (NextPost s n w) := by
  rcases Int.lt_or_le 1 n with h2 | h1
  · obtain ⟨A0, na, c, p, d, ⟨c0, c1, c2, z1, z2⟩, hn, hp, d0, d1, hr, hlt⟩ := h
    have HR := Lib.hid hr
    have HL := Lib.hid hlt
    have hn1 : ¬ n ≤ 1 := by omega
    have hn0 : (n == 0) = false := by simp; omega
    have hq := rem_seed (d * 48271 + 41)
    have hpn : (p : Int) ≤ na := by omega
    by_cases hpl : p < na
    · rcases hr with h0 | ⟨b, off, hA, hr⟩
      · exfalso; omega
      subst hA
      obtain ⟨x, hx, x0, x1⟩ := hr p hpl
      have hbs := hlt (by omega) b off rfl
      clear hr hlt
      have hb1 : ¬ b = s := by omega
      have hb2 : ¬ s = b := by omega
      have hpi : (p : Int) < na := by omega
      have hp0 : (0 : Int) ≤ p := by omega
      by_cases g1 : n ≤ 256
      · by_cases g2 : ((p : Int) + 1) % 2 = 0
        · have g3 : (((p : Int) + 1) % 2 == 0) = true := by simpa using g2
          clear g2
          go_enter Try.func107, Try.ntmps107
          go_wp2
          go_quiet (fail)
          go_wp2
          go_quiet (fail)
          go_wp2
          go_quiet (fail)
          go_wp2
          go_ret
          refine ⟨_, rfl, (rem_rng h2).1, .inl (rem_rng h2).2, ⟨some ⟨b, off, none⟩, na, c, p + 1, _, ⟨by go_simp, by go_simp, by go_simp, by go_simp, by go_simp⟩, hn, by omega, (rem_seed (d * 48271 + 41)).1, (rem_seed (d * 48271 + 41)).2, ?_, ?_⟩, ?_⟩
          · exact RdB.g HR.out (by repeat (first | exact Gs.refl _ _ | exact Gs.set (Gs.refl _ _) | refine Gs.drewN ?_ _ | refine Gs.set ?_)) HL.out
          · exact HL.out
          · exact (by repeat (first | exact Gs.refl _ _ | exact Gs.set (Gs.refl _ _) | refine Gs.drewN ?_ _ | refine Gs.set ?_))
        · have g3 : (((p : Int) + 1) % 2 == 0) = false := by simpa using g2
          clear g2
          go_enter Try.func107, Try.ntmps107
          go_wp2
          go_quiet (fail)
          go_wp2
          go_quiet (fail)
          go_wp2
          go_ret
          refine ⟨_, rfl, (rem_rng h2).1, .inl (rem_rng h2).2, ⟨some ⟨b, off, none⟩, na, c, p + 1, _, ⟨by go_simp, by go_simp, by go_simp, by go_simp, by go_simp⟩, hn, by omega, (rem_seed (d * 48271 + 41)).1, (rem_seed (d * 48271 + 41)).2, ?_, ?_⟩, ?_⟩
          · exact RdB.g HR.out (by repeat (first | exact Gs.refl _ _ | exact Gs.set (Gs.refl _ _) | refine Gs.drewN ?_ _ | refine Gs.set ?_)) HL.out
          · exact HL.out
          · exact (by repeat (first | exact Gs.refl _ _ | exact Gs.set (Gs.refl _ _) | refine Gs.drewN ?_ _ | refine Gs.set ?_))
      · go_enter Try.func107, Try.ntmps107
        go_wp2
        go_quiet (fail)
        go_wp2
        go_quiet (fail)
        go_wp2
        go_ret
        refine ⟨_, rfl, (rem_rng h2).1, .inl (rem_rng h2).2, ⟨some ⟨b, off, none⟩, na, c, p + 1, _, ⟨by go_simp, by go_simp, by go_simp, by go_simp, by go_simp⟩, hn, by omega, (rem_seed (d * 48271 + 41)).1, (rem_seed (d * 48271 + 41)).2, ?_, ?_⟩, ?_⟩
        · exact RdB.g HR.out (by repeat (first | exact Gs.refl _ _ | exact Gs.set (Gs.refl _ _) | refine Gs.drewN ?_ _ | refine Gs.set ?_)) HL.out
        · exact HL.out
        · exact (by repeat (first | exact Gs.refl _ _ | exact Gs.set (Gs.refl _ _) | refine Gs.drewN ?_ _ | refine Gs.set ?_))
    · have hpe : ¬ (p : Int) < na := by omega
      clear hr hlt
      go_enter Try.func107, Try.ntmps107
      go_wp2
      go_quiet (fail)
      go_wp2
      go_ret
      refine ⟨_, rfl, (rem_rng h2).1, .inl (rem_rng h2).2, ⟨A0, na, c, p, _, ⟨by go_simp, by go_simp, by go_simp, by go_simp, by go_simp⟩, hn, by omega, (rem_seed (d * 48271 + 41)).1, (rem_seed (d * 48271 + 41)).2, ?_, ?_⟩, ?_⟩
      · exact RdB.g HR.out (by repeat (first | exact Gs.refl _ _ | exact Gs.set (Gs.refl _ _) | refine Gs.drewN ?_ _ | refine Gs.set ?_)) HL.out
      · exact HL.out
      · exact (by repeat (first | exact Gs.refl _ _ | exact Gs.set (Gs.refl _ _) | refine Gs.drewN ?_ _ | refine Gs.set ?_))
  · go_enter Try.func107, Try.ntmps107
    go_wp2
    go_ret
    exact ⟨0, rfl, Int.le_refl _, .inr ⟨h1, rfl⟩, h, Gs.refl _ _⟩

def PickPost (s : Nat) (xs : List Int) (w : World) (en : Ending) (w9 : World) : Prop := ∃ x : Int, en = .returned (.int .i64 x) ∧ x ∈ xs ∧ Src w9 s ∧ Gs s w w9
theorem Rd.new (w : World) (t : TypeId) (xs : List Int) : Rd (w.alloc (.cells (xs.map (Value.int .i64)).toArray t)) (some ⟨w.heap.size, 0, none⟩) xs := by
  refine .inr ⟨w.heap.size, 0, rfl, fun k hk => ?_⟩
  rw [World.cell?_alloc_new]
  simp [hk]
set_option maxHeartbeats 1000000 in
theorem pick_any (s : Nat) (A : Option Addr) (n c : Nat) (xs : List Int) (w : World) (h : Src w s) (hn : xs.length = n) (h0 : 0 < n) (hm : n ≤ 100) (hr : Rd w A xs) (hA : ∀ b off, A = some ⟨b, off, none⟩ → b ≠ s) :
    Calls Try.prog 108 #[.pointer (some ⟨s, 0, none⟩), .slice A n c] w (PickPost s xs w) := by
  rcases hr with rfl | ⟨b, off, hA2, hr⟩
  · exfalso; simp at hn; omega
  subst hA2
  have hne := hA b off rfl
  have HC := Lib.hid hr; have HN := Lib.hid hn
  clear hr hn hA
  go_enter Try.func108, Try.ntmps108
  go_wp2_with fail
  refine (next_any s _ _ h).mono ?_
  rintro en w1 ⟨x, rfl, x0, hx, hs1, hg1⟩
  obtain ⟨k, rfl⟩ : ∃ k : Nat, x = k := ⟨x.toNat, by omega⟩
  have hkn : k < n := by omega
  have hcell := hg1.cell2 (HC.out k (by rw [HN.out]; exact hkn)) hne
  have hi0 : (0 : Int) ≤ k := by omega
  have hi1 : (k : Int) < n := by omega
  obtain ⟨y, hy⟩ : ∃ y, y = xs.getD k 0 := ⟨_, rfl⟩
  rw [← hy] at hcell
  have HY := Lib.hid hy; clear hy hx
  go_wp2
  go_ret
  exact ⟨y, rfl, by rw [HY.out]; exact List.mem_of_getElem? (getD_at (by rw [HN.out]; exact hkn)), hs1, hg1⟩
def FromPost (w : World) (en : Ending) (w9 : World) : Prop := ∃ s : Nat, en = .returned (.pointer (some ⟨s, 0, none⟩)) ∧ w.heap.size ≤ s ∧ Src w9 s ∧ Below w.heap.size w w9
set_option maxHeartbeats 4000000 in
theorem from_any (A : Option Addr) (n c : Nat) (w : World) (hr : RdB w A n) (hm : n ≤ 4096) :
    Calls Try.prog 104 #[.slice A n c] w (FromPost w) := by
  have HA : Hid (0 < n → ∀ b off, A = some ⟨b, off, none⟩ → b < w.heap.size) := by
    show _ → _
    intro h0 b off e
    rcases hr with h | ⟨b2, off2, e2, h⟩
    · omega
    · rw [e] at e2; cases e2
      obtain ⟨x, hx, _⟩ := h 0 h0
      exact World.block_lt_of_cell? w _ hx
  have HR := Lib.hid hr; clear hr
  go_enter Try.func104, Try.ntmps104
  go_wp2
  go_loopw [4] (fun i wr => ∃ (k : Nat) (d : Int), k ≤ n ∧ k ≤ 64 ∧ i = .int .i64 (k : Int) ∧ wr.cell? ⟨w.heap.size, 0, none⟩ = some (.slice A n c) ∧ wr.cell? ⟨w.heap.size, 1, none⟩ = some (.int .i64 0) ∧ wr.cell? ⟨w.heap.size, 2, none⟩ = some (.int .i64 d) ∧ wr.frozen? ⟨w.heap.size, 1, none⟩ = false ∧ wr.frozen? ⟨w.heap.size, 2, none⟩ = false ∧ 0 ≤ d ∧ d < 2147483647 ∧ Below w.heap.size w wr) (fun i _ => 64 - (intOf i).toNat)
  case atStart => exact ⟨0, 80051, Nat.zero_le _, Nat.zero_le _, rfl, by go_simp, by go_simp, by go_simp, by go_simp, by go_simp, by decide, by decide, by go_grown⟩
  case round =>
    obtain ⟨k, d, hk, hk2, rfl, c0, c1, c2, z1, z2, d0, d1, hbel⟩ := hrel
    have fin : Src wr w.heap.size := ⟨A, n, c, 0, d, ⟨c0, c1, c2, z1, z2⟩, hm, Nat.zero_le _, d0, d1, HR.out.below hbel, HA.out⟩
    have FIN := Lib.hid fin; clear fin
    by_cases hlt : k < n
    · by_cases hlt2 : k < 64
      · have hr := HR.out
        rcases hr with h0 | ⟨b, off, hA2, hr⟩
        · exfalso; omega
        subst hA2
        obtain ⟨x, hx0, x0, x1⟩ := hr k hlt
        have hx := (hbel.cell (World.block_lt_of_cell? w _ hx0)).trans hx0
        have hbs := World.block_lt_of_cell? w _ hx0
        clear hr hx0
        have hb1 : ¬ b = w.heap.size := by dsimp only at hbs; omega
        have hb2 : ¬ w.heap.size = b := by dsimp only at hbs; omega
        have hi0 : (0 : Int) ≤ k := by omega
        have hi1 : (k : Int) < n := by omega
        go_wp2
        go_region
        all_goals go_wp2
        all_goals go_roundw
        case rel => exact ⟨k + 1, (d * 61 + x) % 2147483647, by omega, by omega, by go_num, by go_simp, by go_simp, by go_simp, by go_simp, by go_simp, (rem_seed _).1, (rem_seed _).2, Below.drew (hbel.setCell (p := ⟨w.heap.size, 2, none⟩) (Nat.le_refl _) _)⟩
        case measure => simp [intOf]; omega
      · have h64 : ¬ (k : Int) < 64 := by omega
        go_wp2
        go_ret
        exact ⟨_, rfl, Nat.le_refl _, FIN.out, hbel⟩
    · have hlt3 : ¬ (k : Int) < n := by omega
      go_wp2
      go_ret
      exact ⟨_, rfl, Nat.le_refl _, FIN.out, hbel⟩
theorem big_any (A : Option Addr) (n c : Nat) (w : World) : Calls Try.prog 62 #[.slice A n c] w fun en w9 => en = .returned (.bool (decide (4096 < (n : Int)))) ∧ w = w9 := by
  go_enter Try.func62, Try.ntmps62
  go_wp2
  go_ret
  exact ⟨rfl, rfl⟩
end Go.Proofs.Ytoccglmlpobeeaa
