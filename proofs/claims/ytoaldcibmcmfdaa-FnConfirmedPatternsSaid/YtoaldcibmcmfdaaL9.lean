/- the law, walked: FnConfirmedPatterns -/
import Derived.Test.YtoaldcibmcmfdaaDrW5
import Derived.Test.YtoaldcibmcmfdaaPlainL9
import Derived.Test.YtoaldcibmcmfdaaW18
import Derived.Test.YtoaldcibmcmfdaaL7
import Derived.Laws.AppendOwnNone
import Derived.Deep.DeepCutAuto
import Derived.Outline
set_option linter.unusedVariables false
set_option linter.unusedSimpArgs false
namespace Go.Proofs.Ytoaldcibmcmfdaa
open Go.RowKit

theorem iCCL_any (n a m k v c : Int) (w : World) (H : Hid (CcV n a m k v c)) : Calls Try.prog 31 #[.int .i64 n, .int .i64 a, .int .i64 m, .int .i64 k] w fun en w9 => en = .returned (.tuple #[.int .i64 v, .int .i64 c]) ∧ Below w.heap.size w w9 := by
  obtain ⟨rfl, rfl⟩ := H.out; exact iCC_any n a m k w
theorem sCCL_any (n a m k v c : Int) (w : World) (H : Hid (CcV n a m k v c)) : Calls Try.prog 30 #[.int .i64 n, .int .i64 a, .int .i64 m, .int .i64 k] w fun en w9 => en = .returned (.tuple #[.int .i64 v, .int .i64 c]) ∧ Below w.heap.size w w9 := by
  obtain ⟨rfl, rfl⟩ := H.out; exact sCC_any n a m k w
theorem iCPL_any (n m k v c : Int) (w : World) (H : Hid (CpV n m k v c)) : Calls Try.prog 23 #[.int .i64 n, .int .i64 m, .int .i64 k] w fun en w9 => en = .returned (.tuple #[.int .i64 v, .int .i64 c]) ∧ Below w.heap.size w w9 := by
  obtain ⟨rfl, rfl⟩ := H.out; exact iCP_any n m k w
theorem sCPL_any (n m k v c : Int) (w : World) (H : Hid (CpV n m k v c)) : Calls Try.prog 22 #[.int .i64 n, .int .i64 m, .int .i64 k] w fun en w9 => en = .returned (.tuple #[.int .i64 v, .int .i64 c]) ∧ Below w.heap.size w w9 := by
  obtain ⟨rfl, rfl⟩ := H.out; exact sCP_any n m k w
theorem iSCL_any (A : Option Addr) (n c : Nat) (m k v cc : Int) (xs : List Int) (w : World) (hn : xs.length = n) (hnc : n ≤ c) (hm : n ≤ 1048576) (hr : Rd w A xs) (H : Hid (ScV xs m k v cc)) : Calls Try.prog 26 #[.slice A n c, .int .i64 m, .int .i64 k] w fun en w9 => en = .returned (.tuple #[.int .i64 v, .int .i64 cc]) ∧ w = w9 := by
  obtain ⟨rfl, rfl⟩ := H.out; exact iScan_any A n c m k xs w hn hnc hm hr
theorem sSCL_any (A : Option Addr) (n c : Nat) (m k v cc : Int) (xs : List Int) (w : World) (hn : xs.length = n) (hnc : n ≤ c) (hm : n ≤ 1048576) (hr : Rd w A xs) (H : Hid (ScV xs m k v cc)) : Calls Try.prog 24 #[.slice A n c, .int .i64 m, .int .i64 k] w fun en w9 => en = .returned (.tuple #[.int .i64 v, .int .i64 cc]) ∧ w = w9 := by
  obtain ⟨rfl, rfl⟩ := H.out; exact sScan_any A n c m k xs w hn hnc hm hr

theorem cc_ok {N a m k v c : Int} (H : Hid (CcV N a m k v c)) (hc : c = 0) : ∃ j q : Nat, N = j ∧ k = q ∧ j ≤ 12 ∧ 1 ≤ q ∧ q ≤ 12 ∧ 0 ≤ a ∧ a ≤ 16 ∧ rule m q = true ∧ v = cfAll j a m q := by
  have h2 := H.out.2
  rcases cc_parts N a m k with ⟨_, HV⟩ | ⟨_, _, HV⟩ | ⟨_, _, _, HV⟩ | ⟨j, q, rfl, rfl, hj, q0, q1, a0, a1, _, _, hr, HV⟩
  · rw [HV.out.2, hc] at h2; cases h2
  · rw [HV.out.2, hc] at h2; cases h2
  · rw [HV.out.2, hc] at h2; cases h2
  · exact ⟨j, q, rfl, rfl, hj, q0, q1, a0, a1, hr, by rw [H.out.1, HV.out.1]⟩
theorem cc_at {j q : Nat} {a m : Int} (hj : j ≤ 12) (q0 : 1 ≤ q) (q1 : q ≤ 12) (a0 : 0 ≤ a) (a1 : a ≤ 16) (hr : rule m q = true) : Hid (CcV j a m q (cfAll j a m q) 0) := by
  have hok : ccOk j a m q = true := by unfold ccOk; rw [inR_iff.2 (by omega), inR_iff.2 (by omega), hr]; rfl
  show CcV _ _ _ _ _ _
  exact ⟨by unfold ccVal; rw [if_pos hok]; rfl, by unfold ccCode; rw [if_pos hok]⟩
theorem cc_one {j q : Nat} {a : Int} (hj : j ≤ 12) (q0 : 1 ≤ q) (q1 : q ≤ 12) (a0 : 0 ≤ a) (a1 : a ≤ 16) : Hid (CcV j a 1 q (tail j a 1) 0) := by
  have h := cc_at (j := j) (q := q) (a := a) (m := 1) hj q0 q1 a0 a1 (by unfold rule; rw [inR_iff.2 (by omega), inR_iff.2 (by omega)]; rfl)
  rw [cf_single a0 q0] at h; exact h
theorem cp_at {j q : Nat} {m u c : Int} (H : Hid (CpV j m q u c)) (hj : j ≤ 12) (q0 : 1 ≤ q) (q1 : q ≤ 12) (hr : rule m q = true) : u = cfAll j (-1) m q ∧ c = 0 := by
  have hok : cpOk j m q = true := by unfold cpOk; rw [inR_iff.2 (by omega), hr]; rfl
  exact ⟨by rw [H.out.1]; unfold cpVal; rw [if_pos hok]; rfl, by rw [H.out.2]; unfold cpCode; rw [if_pos hok]⟩

theorem pow38 (j : Nat) : (2 : Int) ^ (3 * j) = 8 ^ j := by
  induction j with
  | zero => rfl
  | succ j ih => rw [show 3 * (j + 1) = 3 * j + 1 + 1 + 1 by omega, Int.pow_succ, Int.pow_succ, Int.pow_succ, Int.pow_succ, ih]; omega
theorem shl8 {E K : Int} {j : Nat} (h : E = 8 ^ j * K) (hb : 0 ≤ E ∧ E ≤ 1152921504606846976) : wrap64 (K * 2 ^ (3 * j)) = E := by
  rw [pow38, Int.mul_comm, ← h]
  exact IntWalk.wrap64_in E (by omega)

theorem cfAll_zero (a m : Int) (q : Nat) : cfAll 0 a m q = 0 := by
  unfold cfAll
  simp [pats, cf, lsum, conf, leastN]

set_option maxRecDepth 100000 in
set_option maxHeartbeats 16000000 in
theorem lawConf_any (A : Option Addr) (n c : Nat) (w : World) (hr : RdB w A n) :
    Calls Try.prog 13 #[.slice A n c] w fun en w9 => en = .returned (.bool true) ∧ Below w.heap.size w w9 := by
  by_cases hm : 4096 < (n : Int)
  · have hbig : decide (4096 < (n : Int)) = true := decide_eq_true hm
    go_enter Try.func13, Try.ntmps13
    go_wp2_with fail
    refine (big_any _ _ _ _).mono ?_
    rintro en wz ⟨rfl, rfl⟩
    rw [hbig]
    go_wp2
    go_ret
    exact ⟨rfl, Below.refl _ _⟩
  · have hbig : decide (4096 < (n : Int)) = false := decide_eq_false hm
    have hm2 : n ≤ 4096 := by omega
    go_enter Try.func13, Try.ntmps13
    go_wp2_with fail
    refine (big_any _ _ _ _).mono ?_
    rintro en wz ⟨rfl, rfl⟩
    rw [hbig]
    clear hbig hm
    go_wp2_with fail
    refine (dCount_any A n c _ hr hm2).mono ?_
    rintro en w1 ⟨N, a, m, k, rfl, hb1⟩
    obtain ⟨v, bad, HV⟩ := cc_letters N a m k
    obtain ⟨u, one, HU⟩ := cp_letters N m k
    go_wp2_with fail
    refine (iCCL_any _ _ _ _ v bad _ HV).mono ?_
    rintro en w2 ⟨rfl, hb2⟩
    go_wp2_with fail
    refine (sCCL_any _ _ _ _ v bad _ HV).mono ?_
    rintro en w3 ⟨rfl, hb3⟩
    go_wp2_with fail
    refine (iCPL_any _ _ _ u one _ HU).mono ?_
    rintro en w4 ⟨rfl, hb4⟩
    go_wp2_with fail
    refine (sCPL_any _ _ _ u one _ HU).mono ?_
    rintro en w5 ⟨rfl, hb5⟩
    have hB5 := bseq hb1 (bseq hb2 (bseq hb3 (bseq hb4 hb5)))
    clear hb1 hb2 hb3 hb4 hb5
    go_wp2_with fail
    refine (dScan_any A n c _ (RdB.below hr hB5) hm2).mono ?_
    rintro en w6 ⟨A6, p6, c6, xs, m6, k6, rfl, hl6, hc6, hp6, hz6, hr6, hb6⟩
    have hB6 := bseq hB5 hb6
    clear hB5 hb6
    obtain ⟨sv, sc, HS⟩ := sc_letters xs m6 k6
    go_wp2_with fail
    refine (iSCL_any _ _ _ _ _ sv sc xs _ hl6 hc6 (by omega) hr6 HS).mono ?_
    rintro en wq ⟨rfl, rfl⟩
    go_wp2_with fail
    refine (iSCL_any _ _ _ _ _ sv sc xs _ hl6 hc6 (by omega) hr6 HS).mono ?_
    rintro en wq ⟨rfl, rfl⟩
    go_wp2_with fail
    refine (sSCL_any _ _ _ _ _ sv sc xs _ hl6 hc6 (by omega) hr6 HS).mono ?_
    rintro en wq ⟨rfl, rfl⟩
    by_cases hsc : sc = 0
    · obtain ⟨i, rfl, hi, h13, H2⟩ := sc_ok HS hsc (by rw [hl6]; exact hz6)
      subst hsc
      subst hl6
      rcases hr6 with rfl | ⟨b, off, rfl, hcell⟩
      · simp at hi
      have HC := Lib.hid hcell; clear hcell
      clear hz6 HS
      have i1 : (i : Int) + 1 ≤ c6 := by omega
      have HO := Lib.hid (OwnV.empty w6 w6.heap.size (Nat.le_refl _))
      obtain ⟨i0, hi0, hz0, hz1, hz2⟩ := info_parts info_app
      go_wp2_with (at_builtin; refine wpList_append_lies _ rfl _ _ 27 rfl w6.heap.size 2 i0 (.int .i64 0) 1 8 Try.underlying27 hi0 hz0 hz1 hz2 rfl (by decide) _ 0 [] rfl HO.out ⟨b, off, none⟩ (i + 1) c6 ((xs.take (i + 1)).map (Value.int .i64)) rfl (by simp; omega) ?_ ?_ (by omega) (by unfold maxLen; omega) (by omega) (by simp) _ rfl ?_)
      · intro y z hy
        have hjl : y < (xs.take (i + 1)).length := by
          rcases Nat.lt_or_ge y (xs.take (i + 1)).length with h | h
          · exact h
          · rw [List.getElem?_eq_none (by simpa using h)] at hy; cases hy
        have hjx : y < i + 1 ∧ y < xs.length := by rw [List.length_take] at hjl; omega
        have hz : z = .int .i64 (xs.getD y 0) := by
          rw [List.getElem?_map, List.getElem?_take_of_lt hjx.1, getD_at hjx.2] at hy; simpa using hy.symm
        subst hz
        have h2 := later (Below.alloc (Below.refl w6.heap.size w6) (Nat.le_refl _) (.cells #[] 2)) (HC.out y hjx.2)
        have e : (⟨b, off, none⟩ : Addr).add y = ⟨b, off + y, none⟩ := by unfold Addr.add; split <;> simp_all
        rw [e]; exact h2
      · intro z hz
        obtain ⟨x, _, rfl⟩ := List.mem_map.1 hz
        rfl
      · intro g cap w7 h7 hg7 hat hlt
        have hlen : (xs.take (i + 1)).length = i + 1 := by simp; omega
        have HV7 : Hid (OwnV w7 w6.heap.size (.slice (some ⟨g, 0, none⟩) (i + 1) cap) (xs.take (i + 1))) := by
          show w7.ownsRow _ _ _ _ _ _
          rw [hlen]; simpa [List.map_take] using h7
        have hb7 : Below w6.heap.size w6 w7 := ((Below.refl w6.heap.size w6).alloc (Nat.le_refl _) _).grown hg7 (by simp) (fun k hk => by cases hk; exact Nat.le_refl _)
        have hz7 := hb7.size
        clear h7 hg7 hat
        go_wp2_with (at_builtin; refine app_int rfl _ _ rfl w6.heap.size _ (xs.take (i + 1)) rfl (OwnV.alloc HV7.out _) 0 _ rfl (cell_new1 _ _) (by omega) (by simp; omega) ?_; intro g8 cap8 w8 hown8 hb8)
        have hB8 := bseq hB6 ((Below.alloc hb7 (by omega) _).trans hb8)
        obtain ⟨A9, c9, e9, hR9⟩ := OwnV.R hown8
        have hl9 : (xs.take (i + 1) ++ [0]).length = i + 1 + 1 := by rw [List.length_append, hlen]; rfl
        injection e9 with g1 g2 g3
        subst g1; subst g3
        have hR9c : i + 1 + 1 ≤ cap8 := by have := hR9.2.1; omega
        have HR9 := Lib.hid hR9.rd
        have HL9 := Lib.hid hl9
        clear hown8 hb8 hR9 g2 hl9 hlen
        refine (iSCL_any _ _ _ _ _ i 0 (xs.take (i + 1) ++ [0]) _ HL9.out hR9c (by omega) HR9.out H2).mono ?_
        rintro en wq ⟨rfl, rfl⟩
        have hbel := hB8
        clear H2 HR9 HC HO HV7
        by_cases hc : bad = 0
        · obtain ⟨j, q, rfl, rfl, hj, q0, q1, a0, a1, hrule, rfl⟩ := cc_ok HV hc
          obtain ⟨rfl, rfl⟩ := cp_at HU hj q0 q1 hrule
          subst hc
          have e1 := cc_at (j := j) (q := q) (a := 8) hj q0 q1 (by decide) (by decide) hrule
          have e2 := cc_one hj q0 q1 a0 a1
          have e3 := tc_at hj a0 a1 (k := 1) (by omega)
          go_wp2_with fail
          refine (iCCL_any _ _ _ _ _ _ _ e1).mono ?_
          rintro en w20 ⟨rfl, hb20⟩
          go_wp2_with fail
          refine (iCCL_any _ _ _ _ _ _ _ e2).mono ?_
          rintro en w21 ⟨rfl, hb21⟩
          go_wp2_with fail
          refine (iTCL_any _ _ _ _ _ _ e3).mono ?_
          rintro en w22 ⟨rfl, hb22⟩
          have HB22 := Lib.hid (bseq hbel (bseq hb20 (bseq hb21 hb22)))
          clear hbel hb20 hb21 hb22 e1 e2 e3 HV HU
          by_cases hj0 : j = 0
          · subst hj0
            rw [cfAll_zero, cfAll_zero]
            go_wp2
            go_ret
            exact ⟨rfl, HB22.out⟩
          · have hjb : ((j : Int) == 0) = false := by simpa using hj0
            have hj1 : (1 : Int) ≤ j := by omega
            have hE8 := cf_even j m q
            have hbd := cfAll_bd (n := j) (a := 8) (m := m) (k := q) hj (by decide)
            obtain ⟨E8, hX8⟩ : ∃ x, x = cfAll j 8 m q := ⟨_, rfl⟩
            rw [← hX8] at hE8 hbd ⊢
            clear hX8
            obtain ⟨KP, hKP⟩ : ∃ x, x = cfAll j (-1) m q := ⟨_, rfl⟩
            rw [← hKP] at hE8 ⊢
            clear hKP
            have hsh : wrap64 (KP * 2 ^ (3 * j)) = E8 := shl8 hE8 (by omega)
            clear hE8
            go_wp2
            go_ret
            exact ⟨rfl, HB22.out⟩
        · have hd : (bad != 0) = true := by simpa using hc
          clear hc HV HU
          go_wp2
          go_ret
          exact ⟨rfl, hbel⟩
    · have hs2 : (sc == 0) = false := by simpa using hsc
      have hbel := hB6
      clear hsc HS hz6
      by_cases hc : bad = 0
      · obtain ⟨j, q, rfl, rfl, hj, q0, q1, a0, a1, hrule, rfl⟩ := cc_ok HV hc
        obtain ⟨rfl, rfl⟩ := cp_at HU hj q0 q1 hrule
        subst hc
        have e1 := cc_at (j := j) (q := q) (a := 8) hj q0 q1 (by decide) (by decide) hrule
        have e2 := cc_one hj q0 q1 a0 a1
        have e3 := tc_at hj a0 a1 (k := 1) (by omega)
        go_wp2_with fail
        refine (iCCL_any _ _ _ _ _ _ _ e1).mono ?_
        rintro en w20 ⟨rfl, hb20⟩
        go_wp2_with fail
        refine (iCCL_any _ _ _ _ _ _ _ e2).mono ?_
        rintro en w21 ⟨rfl, hb21⟩
        go_wp2_with fail
        refine (iTCL_any _ _ _ _ _ _ e3).mono ?_
        rintro en w22 ⟨rfl, hb22⟩
        have HB22 := Lib.hid (bseq hbel (bseq hb20 (bseq hb21 hb22)))
        clear hbel hb20 hb21 hb22 e1 e2 e3 HV HU
        by_cases hj0 : j = 0
        · subst hj0
          rw [cfAll_zero, cfAll_zero]
          go_wp2
          go_ret
          exact ⟨rfl, HB22.out⟩
        · have hjb : ((j : Int) == 0) = false := by simpa using hj0
          have hj1 : (1 : Int) ≤ j := by omega
          have hE8 := cf_even j m q
          have hbd := cfAll_bd (n := j) (a := 8) (m := m) (k := q) hj (by decide)
          obtain ⟨E8, hX8⟩ : ∃ x, x = cfAll j 8 m q := ⟨_, rfl⟩
          rw [← hX8] at hE8 hbd ⊢
          clear hX8
          obtain ⟨KP, hKP⟩ : ∃ x, x = cfAll j (-1) m q := ⟨_, rfl⟩
          rw [← hKP] at hE8 ⊢
          clear hKP
          have hsh : wrap64 (KP * 2 ^ (3 * j)) = E8 := shl8 hE8 (by omega)
          clear hE8
          go_wp2
          go_ret
          exact ⟨rfl, HB22.out⟩
      · have hd : (bad != 0) = true := by simpa using hc
        clear hc HV HU
        go_wp2
        go_ret
        exact ⟨rfl, hbel⟩
end Go.Proofs.Ytoaldcibmcmfdaa
