/- walks: the closure of tails -/
import Derived.Test.YtoaldcibmcmfdaaW7
import Derived.Deep.RegionHeld3
set_option linter.unusedVariables false
set_option linter.unusedSimpArgs false
namespace Go.Proofs.Ytoaldcibmcmfdaa
open Go.RowKit

theorem Gs.cells {s : Nat} {w w2 : World} {g off : Nat} {xs : List Int} (h : Gs s w w2) (hc : Cells w g off xs) (hne : g ≠ s) : Cells w2 g off xs :=
  ⟨fun k hk => h.cell2 (hc.1 k hk) hne, fun k hk => h.frozen2 (hc.1 k hk) hne (hc.2 k hk)⟩
theorem Cells.drewN {w : World} {g off : Nat} {xs : List Int} (h : Cells w g off xs) (m : Nat) : Cells (w.drewN m) g off xs := h
theorem Cells.drew {w : World} {g off : Nat} {xs : List Int} (h : Cells w g off xs) : Cells w.drew g off xs := h
theorem sumBits_any (A : Option Addr) (n j s : Nat) (w : World) (hn : n ≤ 12) (hr : Rd w A (bits n j)) (hs : Hid (lsum (bits n j) = (s : Int))) :
    Calls Try.prog 69 #[.slice A n n] w fun en w9 => en = .returned (.int .i64 (s : Int)) ∧ w = w9 :=
  (sumOf_any A n n (bits n j) w (bits_len n j) (by omega) (fun x hx => by have := bits_01 n j x hx; omega) hr).mono fun _ _ h => ⟨by rw [h.1, hs.out], h.2⟩
theorem caseBits_any (A : Option Addr) (n j : Nat) (a v : Int) (w : World) (hn : n ≤ 12) (h0 : 0 ≤ a) (h1 : a ≤ 16) (hr : Rd w A (bits n j)) (hv : Hid (casesOf a (bits n j) = v)) :
    Calls Try.prog 60 #[.slice A n n, .int .i64 a] w fun en w9 => en = .returned (.int .i64 v) ∧ w = w9 :=
  (cases_any A n n a (bits n j) w (bits_len n j) hn h0 h1 hr).mono fun _ _ h => ⟨by rw [h.1, hv.out], h.2⟩
set_option maxHeartbeats 2000000 in
theorem closT_any (n j L B G g : Nat) (a : Int) (w : World) (hn : n ≤ 12) (hj : j < 2 ^ n) (h0 : 0 ≤ a) (h1 : a ≤ 16) (hL : w.cell? ⟨L, 0, none⟩ = some (.slice (some ⟨G, 0, none⟩) (n + 2) (n + 2))) (hB : w.cell? ⟨B, 0, none⟩ = some (.int .i64 a))
    (hC : Hid (Cells w G 0 (cnts n a j))) (hG : Hid (Cells w g 0 (bits n j))) :
    Calls Try.prog 68 #[.slice (some ⟨g, 0, none⟩) n n, .pointer (some ⟨L, 0, none⟩), .pointer (some ⟨B, 0, none⟩)] w fun en w9 => en = .returned (.tuple #[]) ∧ Cells w9 G 0 (cnts n a (j + 1)) ∧ Gs G w w9 := by
  have hs0 := lsum_01 (bits_01 n j)
  rw [bits_len] at hs0
  obtain ⟨s, hs⟩ : ∃ s : Nat, lsum (bits n j) = (s : Int) := ⟨(lsum (bits n j)).toNat, by omega⟩
  rw [hs] at hs0
  have hsn : s < n + 2 := by omega
  have HS := Lib.hid hs; clear hs
  obtain ⟨v, hv⟩ : ∃ v, casesOf a (bits n j) = v := ⟨_, rfl⟩
  have hvb := casesOf_bd h0 h1 (bits n j)
  rw [bits_len, hv] at hvb
  have hp := p16_le n hn
  have HV := Lib.hid hv; clear hv
  have hu := at_bd (n := n) h0 h1 (s : Int) (j := j) (Nat.le_of_lt hj)
  have hu2 := ex_top n a (s : Int) h0 h1
  have hcs := hC.out.1 s (by rw [cnts_len]; exact hsn)
  have hcf := hC.out.2 s (by rw [cnts_len]; exact hsn)
  rw [cnts_at hsn, Nat.zero_add] at hcs
  rw [Nat.zero_add] at hcf
  have HU := Lib.hid (cnts_up n a j HS.out hsn)
  have HP := Lib.hid (hC.out.put s (gsum (at_ a s) n j + v) (by rw [cnts_len]; exact hsn))
  obtain ⟨u, hue⟩ : ∃ u, u = gsum (at_ a s) n j := ⟨_, rfl⟩
  rw [← hue] at hu hcs HP HU
  clear hue
  have HR := Lib.hid hG.out.rd
  have hi1 : (s : Int) < n + 2 := by omega
  have hi0 : (0 : Int) ≤ s := by omega
  have hw : IntKind.i64.wrap (u + v) = u + v := IntWalk.i64_in _ (by omega)
  have FIN : Hid (Cells (w.setCell ⟨G, s, none⟩ (.int .i64 (IntKind.i64.wrap (u + v)))).drew G 0 (cnts n a (j + 1)) ∧ Gs G w (w.setCell ⟨G, s, none⟩ (.int .i64 (IntKind.i64.wrap (u + v)))).drew) := by
    show _ ∧ _
    rw [hw]
    have h2 := HP.out
    rw [Nat.zero_add] at h2
    rw [HV.out] at HU
    rw [HU.out] at h2
    exact ⟨h2, Gs.drew (Gs.set (Gs.refl _ _))⟩
  clear hw HU HP
  go_enter Try.func68, Try.ntmps68
  go_region_with (first | (go_at_call 69; refine (sumBits_any _ n j s _ hn (by exact HR.out) HS).mono ?_; rintro en wq ⟨rfl, rfl⟩) | (go_at_call 60; refine (caseBits_any _ n j a v _ hn h0 h1 (by exact HR.out) HV).mono ?_; rintro en wq ⟨rfl, rfl⟩))
  all_goals (go_end0; exact ⟨rfl, FIN.out⟩)
end Go.Proofs.Ytoaldcibmcmfdaa
