/- plain: the sum of echoes -/
import Derived.Test.YtgfhmihnnjcagaaPlainE
import Derived.Test.YtgfhmihnnjcagaaW13
set_option linter.unusedVariables false
set_option linter.unusedSimpArgs false
namespace Go.Proofs.Ytgfhmihnnjcagaa
open Go.RowKit

/-- the sum of the first k numbers -/
def smTo (xs : List Int) : Nat → Int
  | 0 => 0
  | k + 1 => smTo xs k + xs.getD k 0
theorem smTo_repl (L k : Nat) : smTo (List.replicate L 0) k = 0 := by
  induction k with
  | zero => rfl
  | succ k ih =>
    have := Bd.zero L k
    simp only [smTo, ih]; omega
theorem smTo_set {ys : List Int} {i : Nat} {v : Int} (h : i < ys.length) (n : Nat) : smTo (ys.set i (ys.getD i 0 + v)) n = smTo ys n + (if i < n then v else 0) := by
  induction n with
  | zero => simp [smTo]
  | succ n ih =>
    simp only [smTo, ih]
    by_cases e : i = n
    · subst e
      rw [getD_set_eq h, if_neg (by omega), if_pos (by omega)]; omega
    · rw [getD_set_ne e]
      by_cases h2 : i < n
      · rw [if_pos h2, if_pos (by omega)]; omega
      · rw [if_neg h2, if_neg (by omega)]; omega
theorem smTo_add {ys ps : List Int} {d : Nat} {g : Int} {j : Nat} (hd : d + j ≤ ys.length) : smTo (addTo ys ps d g j) ys.length = smTo ys ys.length + g * smTo ps j := by
  induction j with
  | zero => simp [addTo, smTo]
  | succ j ih =>
    simp only [addTo, smTo]
    rw [smTo_set (by rw [addTo_len]; omega), ih (by omega), if_pos (by omega), Int.mul_add]
    omega
theorem smTo_ech {ps ds gs : List Int} {L k : Nat} (hd : ∀ i, i < k → 0 ≤ ds.getD i 0 ∧ ds.getD i 0 ≤ (L : Int) - ps.length) : smTo (echTo ps ds gs L k) L = smTo ps ps.length * smTo gs k := by
  induction k with
  | zero => simp [echTo, smTo, smTo_repl]
  | succ k ih =>
    have ih := ih (fun i hi => hd i (by omega))
    have h1 := hd k (by omega)
    have h2 := smTo_add (ys := echTo ps ds gs L k) (ps := ps) (d := (ds.getD k 0).toNat) (g := gs.getD k 0) (j := ps.length) (by rw [echTo_len]; omega)
    rw [echTo_len] at h2
    simp only [echTo, smTo]
    rw [h2, ih, Int.mul_add, Int.mul_comm (gs.getD k 0)]
theorem smTo_bd {xs : List Int} {M : Int} (h : Bd M xs) (k : Nat) : -(M * k) ≤ smTo xs k ∧ smTo xs k ≤ M * k := by
  induction k with
  | zero => simp [smTo]
  | succ k ih =>
    have h1 := h k
    have e : M * ((k + 1 : Nat) : Int) = M * k + M := by rw [show ((k + 1 : Nat) : Int) = (k : Int) + 1 by omega, Int.mul_add, Int.mul_one]
    simp only [smTo]
    rw [e]
    omega
/-- what the law compares, where all is well -/
theorem ec_sum {ps ds gs : List Int} {L : Int} (h : ecCode ps ds gs L = 0) :
    isSig ps = true ∧ isSig (ecVal ps ds gs L) = true ∧ Sig gs ∧ gs.length ≤ 200 ∧ ((ecVal ps ds gs L).length : Int) = L ∧ smTo (ecVal ps ds gs L) (ecVal ps ds gs L).length = smTo ps ps.length * smTo gs gs.length := by
  unfold ecCode at h
  by_cases h1 : isSig ps = true
  · rw [if_pos h1] at h
    by_cases h2 : echOk ps ds gs L = true
    · rw [if_pos h2] at h
      by_cases h3 : isSig (ech ps ds gs L) = true
      · obtain ⟨l0, l1, l2, l3, l4, l5⟩ := echOk_bd h2
        have e := (ec_yes h1 h2 h3).1
        rw [e]
        have hl : (ech ps ds gs L).length = L.toNat := echTo_len _ _ _ _ _
        refine ⟨h1, h3, l4, by omega, by rw [hl]; omega, ?_⟩
        rw [hl, l3]
        exact smTo_ech (fun i hi => by have := l5 i hi; omega)
      · rw [if_neg h3] at h; omega
    · rw [if_neg h2] at h; omega
  · rw [if_neg h1] at h; omega

set_option maxHeartbeats 1000000 in
theorem sumT_any (A : Option Addr) (n c : Nat) (xs : List Int) (w : World) (hn : xs.length = n) (hm : n ≤ 1048576) (hr : Rd w A xs) (hb : Hid (Bd 1000 xs)) :
    Calls Try.prog 69 #[.slice A n c] w fun en w9 => en = .returned (.int .i64 (smTo xs n)) ∧ w = w9 := by
  have HN := Lib.hid hn; clear hn
  have HR := Lib.hid hr; clear hr
  go_enter Try.func69, Try.ntmps69
  go_wp2
  go_loop [3, 4] (fun s i => ∃ k : Nat, k ≤ n ∧ i = .int .i64 (k : Int) ∧ s = .int .i64 (smTo xs k)) (fun s i => n - (intOf i).toNat)
  case atStart => exact ⟨0, Nat.zero_le _, rfl, rfl⟩
  case round =>
    obtain ⟨k, hk, rfl, rfl⟩ := hrel
    by_cases hlt : k < n
    · rcases HR.out with h0 | ⟨b, off, hA, hc⟩
      · exfalso; have := HN.out; rw [h0] at this; simp at this; omega
      subst hA
      have hck := hc k (by rw [HN.out]; exact hlt)
      clear hc
      have hki : (k : Int) < n := by omega
      have q1 := smTo_bd hb.out k
      have q2 := hb.out k
      have q3 : smTo xs (k + 1) = smTo xs k + xs.getD k 0 := rfl
      obtain ⟨y, hy⟩ : ∃ y, y = xs.getD k 0 := ⟨_, rfl⟩
      obtain ⟨S, hS⟩ : ∃ S, S = smTo xs k := ⟨_, rfl⟩
      obtain ⟨T, hT⟩ : ∃ T, T = smTo xs (k + 1) := ⟨_, rfl⟩
      rw [← hy] at hck q2 q3
      rw [← hS] at q1 q3 ⊢
      rw [← hT] at q3
      have e1 : IntKind.i64.wrap (S + y) = T := by rw [IntWalk.i64_in _ (by omega), q3]
      have HT := Lib.hid hT
      clear hy hS hT q1 q2 q3
      go_wp2
      go_round
      case rel => exact ⟨k + 1, by omega, by go_num, by rw [← HT.out]⟩
      case measure => simp [intOf]; omega
    · have hk2 : k = n := by omega
      subst hk2
      go_wp2
      go_ret
      exact ⟨rfl, rfl⟩
end Go.Proofs.Ytgfhmihnnjcagaa
