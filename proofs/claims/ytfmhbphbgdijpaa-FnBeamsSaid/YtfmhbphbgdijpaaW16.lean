/- walks: PlaneWave, the program -/
import Derived.Test.YtfmhbphbgdijpaaPw
import Derived.Test.YtfmhbphbgdijpaaW13
import Derived.Test.YtfmhbphbgdijpaaW6
set_option linter.unusedVariables false
set_option linter.unusedSimpArgs false
namespace Go.Proofs.Ytfmhbphbgdijpaa
open Go.RowKit

theorem heap_lt {w : World} {g : Nat} {o : Obj} (h : w.heap[g]? = some o) : g < w.heap.size := (Array.getElem?_eq_some_iff.1 h).1
theorem pw_no {ps xs : List Int} {c s h r v st L z : Int} (h0 : pwCode ps xs c s h r v st L = z) (hz : z ≠ 0) : pwVal ps xs c s h r v st L = [] ∧ pwCode ps xs c s h r v st L = z := ⟨by unfold pwVal; rw [if_neg (by rw [h0]; exact hz)], h0⟩
theorem OwnM.lowB {w : World} {B B2 U : Nat} {A : Option Addr} {n c : Nat} {rows : List (List Int)} (h : OwnM w B2 U A n c rows) (hB : B ≤ B2) : OwnM w B U A n c rows := by
  obtain ⟨h1, h2, h3, h4⟩ := h
  refine ⟨h1, h2, h3, ?_⟩
  rcases h4 with h4 | ⟨g, H, C, r1, r2, r3, r4, r5, r6⟩
  · exact .inl h4
  · exact .inr ⟨g, H, C, r1, by omega, r3, fun k hk => by have := r4 k hk; omega, r5, r6⟩

set_option maxRecDepth 100000 in
set_option maxHeartbeats 8000000 in
theorem iPw_any (P : Option Addr) (p pc : Nat) (ps : List Int) (A : Option Addr) (n c : Nat) (xs : List Int) (cc s h r v st L : Int) (w : World) (hp : ps.length = p) (hpc : p ≤ pc) (hmp : p ≤ 1048576) (hrp : Rd w P ps) (hn : xs.length = n) (hnc : n ≤ c) (hm : n ≤ 1048576) (hr : Rd w A xs) :
    Calls Try.prog 43 #[.slice P p pc, .slice A n c, .agg #[.int .i64 cc, .int .i64 s, .int .i64 h], .int .i64 r, .int .i64 v, .int .i64 st, .int .i64 L] w fun en w9 => ∃ A9 c9, en = .returned (.tuple #[.slice A9 (pwVal ps xs cc s h r v st L).length c9, .int .i64 (pwCode ps xs cc s h r v st L)]) ∧ OwnM w9 w.heap.size w9.heap.size A9 (pwVal ps xs cc s h r v st L).length c9 (pwVal ps xs cc s h r v st L) ∧ Below w.heap.size w w9 := by
  have HR := Lib.hid hr
  have HN := Lib.hid hn
  have HRP := Lib.hid hrp
  have HP := Lib.hid hp
  clear hr hn hrp hp
  go_enter Try.func43, Try.ntmps43
  go_wp2_with fail
  have hB0 : Below w.heap.size w (w.alloc (.cells #[.int .i64 cc, .int .i64 s, .int .i64 h] 42)) := by go_grown
  have c0 : (w.alloc (.cells #[.int .i64 cc, .int .i64 s, .int .i64 h] 42)).cell? ⟨w.heap.size, 0, none⟩ = some (.int .i64 cc) := by go_simp
  have c1 : (w.alloc (.cells #[.int .i64 cc, .int .i64 s, .int .i64 h] 42)).cell? ⟨w.heap.size, 1, none⟩ = some (.int .i64 s) := by go_simp
  have c2 : (w.alloc (.cells #[.int .i64 cc, .int .i64 s, .int .i64 h] 42)).cell? ⟨w.heap.size, 2, none⟩ = some (.int .i64 h) := by go_simp
  generalize w.alloc (.cells #[.int .i64 cc, .int .i64 s, .int .i64 h] 42) = w1 at hB0 c0 c1 c2 ⊢
  have HR1 : Hid (Rd w1 A xs) := HR.out.below hB0
  have hz1 := hB0.size
  clear HR
  refine (iWc_any A n c xs cc s h r v _ HN.out hnc hm HR1.out).mono ?_
  rintro en w2 ⟨rfl, hb2⟩
  have HR2 : Hid (Rd w2 A xs) := HR1.out.below hb2
  have d0 := later hb2 c0
  have d1 := later hb2 c1
  have d2 := later hb2 c2
  have hB2 := bseq hB0 hb2
  have hz2 := hb2.size
  have HRP2 : Hid (Rd w2 P ps) := HRP.out.below hB2
  clear HR1 c0 c1 c2
  go_wp2_with fail
  refine (iSig_any P p pc ps _ HP.out hpc hmp HRP2.out).mono ?_
  rintro en wz ⟨rfl, rfl⟩
  rcases Bool.eq_false_or_eq_true (isSig ps) with hs1 | hs1
  rotate_left
  · have HV : Hid (pwVal ps xs cc s h r v st L = [] ∧ pwCode ps xs cc s h r v st L = 1) := pw_no (by unfold pwCode; rw [hs1]; rfl) (by decide)
    go_wp2
    go_ret2
    exact ⟨none, 0, by rw [HV.out.1, HV.out.2]; rfl, by rw [HV.out.1]; exact OwnM.nil, hB2⟩
  have hsg := isSig_iff.1 hs1
  rw [HP.out] at hsg
  have hp4 := hsg.1
  have HSP := Lib.hid hsg.2
  have HSG := Lib.hid hs1
  clear hsg
  by_cases hz : wvCode xs cc s h r v = 0
  rotate_left
  · have hne : (wvCode xs cc s h r v != 0) = true := by simpa using hz
    have HV : Hid (pwVal ps xs cc s h r v st L = [] ∧ pwCode ps xs cc s h r v st L = wvCode xs cc s h r v) := pw_no (by unfold pwCode; rw [if_pos hs1, if_neg hz]) hz
    clear hz
    go_wp2
    go_ret2
    exact ⟨none, 0, by rw [HV.out.1, HV.out.2]; rfl, by rw [HV.out.1]; exact OwnM.nil, hB2⟩
  have hne : (wvCode xs cc s h r v != 0) = false := by simp [hz]
  have HZ := Lib.hid hz
  have hwv := wvCode_zero hz
  clear hz
  rcases Bool.eq_false_or_eq_true (inR L 0 400) with g1 | g1
  rotate_left
  · have HV : Hid (pwVal ps xs cc s h r v st L = [] ∧ pwCode ps xs cc s h r v st L = 2) := pw_no (by unfold pwCode pwOk; rw [if_pos hs1, if_pos HZ.out, g1]; rfl) (by decide)
    go_wp2_with (first | (go_at_call 54; refine (within_any _ _ _ _).mono ?_; rintro en w1 ⟨rfl, rfl⟩))
    go_ret2
    exact ⟨none, 0, by rw [HV.out.1, HV.out.2]; rfl, by rw [HV.out.1]; exact OwnM.nil, hB2⟩
  rcases Bool.eq_false_or_eq_true (inR st 0 400) with g2 | g2
  rotate_left
  · have HV : Hid (pwVal ps xs cc s h r v st L = [] ∧ pwCode ps xs cc s h r v st L = 2) := pw_no (by unfold pwCode pwOk; rw [if_pos hs1, if_pos HZ.out, g1, g2]; rfl) (by decide)
    go_wp2_with (first | (go_at_call 54; refine (within_any _ _ _ _).mono ?_; rintro en w1 ⟨rfl, rfl⟩))
    go_ret2
    exact ⟨none, 0, by rw [HV.out.1, HV.out.2]; rfl, by rw [HV.out.1]; exact OwnM.nil, hB2⟩
  have HPO : Hid (pwOk st L = true) := by show _ = _; unfold pwOk; rw [g1, g2]; rfl
  have l1 := inR_iff.1 g1
  have l2 := inR_iff.1 g2
  obtain ⟨l, rfl⟩ : ∃ l : Nat, L = l := ⟨L.toNat, by omega⟩
  have hl4 : l ≤ 400 := by omega
  obtain ⟨hl, hxb, hcb, hsb, hhb, hrb, hvb⟩ := hwv
  rw [HN.out] at hl
  have HB := Lib.hid hxb
  clear hxb
  have hmk := mk_ints l (by omega)
  go_wp2_with (first | (go_at_call 54; refine (within_any _ _ _ _).mono ?_; rintro en w1 ⟨rfl, rfl⟩) | fail)
  refine (newW_any cc s h r v _ hrb hsb hhb hvb).mono ?_
  rintro en w3 ⟨rfl, hb3⟩
  have HR3 : Hid (Rd w3 A xs) := HR2.out.below hb3
  have hB3 := bseq hB2 hb3
  have hz3 := hb3.size
  clear HR2 d0 d1 d2
  go_wp2_with fail
  refine (iDly_any (10 * r * s) (h * v) A n c xs _ HN.out (by omega) HB (num_bd hrb hsb) (den_bd hhb hvb) HR3.out).mono ?_
  rintro en w4 ⟨A5, c5, rfl, hR, hb4⟩
  have hB4 := bseq hB3 hb4
  have HRP4 : Hid (Rd w4 P ps) := HRP.out.below hB4
  obtain ⟨DS, hds⟩ : ∃ DS, DS = dlys xs (10 * r * s) (h * v) := ⟨_, rfl⟩
  have HDS := Lib.hid hds
  have hdl : DS.length = n := by rw [hds, dlys_len, HN.out]
  have HL5 := Lib.hid hdl
  have HDB : Hid (∀ k, -10000000000002 ≤ DS.getD k 0 ∧ DS.getD k 0 ≤ 10000000000002) := by
    show ∀ k, _
    intro k
    by_cases hk : k < xs.length
    · rw [hds, dlys_at hk]
      have h1 := bd_mul (HB.out k) (num_bd hrb hsb)
      have h2 := near_bd (a := xs.getD k 0 * (10 * r * s)) (b := h * v) (M := 10000000000000) (by have := den_bd hhb hvb; omega) (by omega) (by omega)
      omega
    · rw [List.getD_eq_getElem?_getD, List.getElem?_eq_none (by have := HN.out; omega)]; simp
  rw [← hds] at hR
  clear hds hdl
  rcases hR.rd with h0 | ⟨b5, o5, hg5, hc5⟩
  · exfalso; have h1 := HL5.out; rw [h0] at h1; simp at h1; omega
  subst hg5
  have HC5 := Lib.hid hc5
  have hz4 := hb4.size
  clear hc5 hR
  go_wp2
  go_loopw [17, 51] (fun u i wr => ∃ (k : Nat) (H : Nat → Nat), k ≤ n ∧ i = .int .i64 (k : Int) ∧ Hid (fitTo DS st ((l : Int) - p) k = true) ∧ Hid (PwM wr w4.heap.size u k (fun j => pwRow ps l (st + DS.getD j 0).toNat) H) ∧ Below w4.heap.size w4 wr) (fun _ i _ => n - (intOf i).toNat)
  case atStart => exact ⟨0, fun _ => 0, Nat.zero_le _, rfl, rfl, PwM.nil _ _ _ _, Below.refl _ _⟩
  case round =>
    obtain ⟨k, H, hk, rfl, HF, HK, hbel⟩ := hrel
    by_cases hlt : k < n
    · have hy := later hbel (HC5.out k (by rw [HL5.out]; exact hlt))
      have hyb := HDB.out k
      have HNO : Hid (inR (st + DS.getD k 0) 0 ((l : Int) - p) = false → pwVal ps xs cc s h r v st l = [] ∧ pwCode ps xs cc s h r v st l = 2) := by
        show _ → _
        intro hin
        refine pw_no ?_ (by decide)
        unfold pwCode
        rw [if_pos HSG.out, if_pos HZ.out, if_pos HPO.out, ← HDS.out, HN.out, HP.out, fitTo_out hin hlt]; rfl
      have HRW : Hid (pwRow ps l (st + DS.getD k 0).toNat = pwRow ps l (st + DS.getD k 0).toNat) := rfl
      obtain ⟨dd, hdd⟩ : ∃ dd, dd = DS.getD k 0 := ⟨_, rfl⟩
      rw [← hdd] at hy hyb HNO HRW
      have HDD := Lib.hid hdd
      clear hdd
      have hi0 : (k : Int) < n := by omega
      rcases Bool.eq_false_or_eq_true (inR (st + dd) 0 ((l : Int) - p)) with hin | hin
      · have hin2 := inR_iff.1 hin
        have HF2 : Hid (fitTo DS st ((l : Int) - p) (k + 1) = true) := by
          show _ = _
          simp only [fitTo, HF.out, ← HDD.out, hin, Bool.and_self]
        obtain ⟨a, ha⟩ : ∃ a : Nat, st + dd = a := ⟨(st + dd).toNat, by omega⟩
        have hal : a + p ≤ l := by omega
        have HROW : Hid (pwRow ps l (st + DS.getD k 0).toNat = pwRow ps l a) := by show _ = _; rw [← HDD.out, ha]; rfl
        clear HNO HRW
        rw [ha] at hin hin2
        have hz5 := hbel.size
        have HG0 : Hid ((wr.alloc (.cells (zeros l) 2)).heap[wr.heap.size]? = some (.cells (List.replicate l (Value.int .i64 0)).toArray 2 (0, 0))) := heap_alloc_new wr _
        have HQ1 : Hid ((ps.map (Value.int .i64)).length = Nat.min p (l - a)) := by show _ = _; rw [List.length_map, HP.out]; exact (Nat.min_eq_left (by omega)).symm
        have HQ2 : Hid (0 < (ps.map (Value.int .i64)).length → ∃ ad, P = some ad ∧ ∀ j v, (ps.map (Value.int .i64))[j]? = some v → (wr.alloc (.cells (zeros l) 2)).cell? (ad.add j) = some v) := by
          show _ → _
          intro h0
          rcases HRP4.out with h1 | ⟨b1, o1, hP1, hc1⟩
          · rw [h1] at h0; simp at h0
          · refine ⟨_, hP1, fun j v hj => ?_⟩
            have hj2 : j < ps.length := by
              rcases Nat.lt_or_ge j ps.length with h | h
              · exact h
              · rw [List.getElem?_eq_none (by simpa using h)] at hj; cases hj
            have hv : v = .int .i64 (ps.getD j 0) := by
              rw [List.getElem?_map, getD_at hj2] at hj; simpa using hj.symm
            subst hv
            have e : (⟨b1, o1, none⟩ : Addr).add j = ⟨b1, o1 + j, none⟩ := by unfold Addr.add; split <;> simp_all
            rw [e]
            exact later (Below.alloc (Below.refl _ _) (Nat.le_refl _) _) (later hbel (hc1 j hj2))
        have HQ6 : Hid (0 < (ps.map (Value.int .i64)).length → (if l = a then some ⟨wr.heap.size, 0, none⟩ else some ⟨wr.heap.size, a, none⟩ : Option Addr) = some ⟨wr.heap.size, a, none⟩) := by
          show _ → _
          intro h0
          rw [List.length_map, HP.out] at h0
          rw [if_neg (by omega)]
        have HQ3 : Hid (a + (ps.map (Value.int .i64)).length ≤ (List.replicate l (Value.int .i64 0)).length) := by show _ ≤ _; rw [List.length_replicate, List.length_map, HP.out]; exact hal
        have HQ4 : Hid (∀ v ∈ ps.map (Value.int .i64), v.oneCell' = true) := by show ∀ v ∈ _, _; intro v hv; obtain ⟨z, _, rfl⟩ := List.mem_map.1 hv; rfl
        have HQ5 : Hid (Below wr.heap.size wr (wr.alloc (.cells (zeros l) 2))) := Below.alloc (Below.refl _ _) (Nat.le_refl _) _
        have hi1 : (a : Int) ≤ l := by omega
        go_wp2_with (first | (go_at_call 54; refine (within_any _ _ _ _).mono ?_; rintro en w1 ⟨rfl, rfl⟩) | (with_reducible refine wpList_copy_splice rfl (.tmp 69) (.tmp 70) 22 22 rfl 2 Try.underlying22 (by kernel_rfl) (if l = a then some ⟨wr.heap.size, 0, none⟩ else some ⟨wr.heap.size, a, none⟩) P (l - a) (l - a) p pc ?_ ?_ wr.heap.size a (List.replicate l (Value.int .i64 0)) 2 HG0.out (ps.map (Value.int .i64)) HQ1.out (fun h => ⟨HQ6.out h, HQ2.out h⟩) HQ3.out HQ4.out wr.heap.size wr HQ5.out (Nat.le_refl _) ?_; (focus (first | rfl | (simp [Act.eval, Act.put]; done) | (simp [Act.eval, Act.put]; split <;> omega) | (simp [Act.eval, Act.put] <;> omega))); (focus (first | rfl | (simp [Act.eval, Act.put]; done))); intro w5 HG5 hB5; have hlt5 := heap_lt HG5.out) | (at_builtin; refine app_sl rfl (.tmp 72) (.tmp 74) rfl w4.heap.size u17 k _ rfl (World.ownsRow.alloc (ownsRow_below HK.out.1 hB5) _) (some ⟨wr.heap.size, 0, none⟩) l l _ rfl (cell_sl _ _) (by omega) (by simp only [World.size_alloc]; omega) ?_; intro g6 cap6 w6 hown2 hg2 hat2))
        have HK2 := Lib.hid (HK.out.step (by omega) hB5 (heap_lt HG5.out) (by show Cells _ _ _ _; rw [HROW.out]; exact Cells.of_heap (by rw [← splice_row HP.out hal]; exact HG5.out)) (by rw [pwRow_len]; exact hown2) hg2 hat2)
        have hb9 : Below w4.heap.size w4 w6 := (((hbel.trans (hB5.mono hz5)).alloc (Nat.le_trans hz5 (Nat.le_of_lt (heap_lt HG5.out))) _)).grown hg2 (by simp only [World.size_alloc]; have := heap_lt HG5.out; omega) (fun q hq => (World.ownsRow.lt HK.out.1 q hq).1)
        clear hown2 hg2 hat2 HG5
        go_wp2
        go_roundw
        case rel => exact ⟨k + 1, _, by omega, by go_num, HF2, HK2, hb9⟩
        case measure => simp [intOf]; omega
      · have HV := Lib.hid (HNO.out hin)
        clear HNO HRW
        go_wp2_with (first | (go_at_call 54; refine (within_any _ _ _ _).mono ?_; rintro en w1 ⟨rfl, rfl⟩))
        go_ret2
        exact ⟨none, 0, by rw [HV.out.1, HV.out.2]; rfl, by rw [HV.out.1]; exact OwnM.nil, bseq hB4 (hbel.mono (Nat.le_refl _))⟩
    · obtain rfl : k = n := by omega
      have HV : Hid (pwVal ps xs cc s h r v st l = pwRows ps DS st l ∧ pwCode ps xs cc s h r v st l = 0) := by
        have h0 : pwCode ps xs cc s h r v st l = 0 := by
          unfold pwCode
          rw [if_pos HSG.out, if_pos HZ.out, if_pos HPO.out, ← HDS.out, HN.out, HP.out, HF.out]; rfl
        exact ⟨by unfold pwVal; rw [if_pos h0, ← HDS.out], h0⟩
      have hRL : (pwRows ps DS st l).length = k := by rw [pwRows_len, HL5.out]
      obtain ⟨A9, c9, rfl, hO⟩ := HK.out.done (R := pwRows ps DS st l) hRL (fun j hj => by rw [pwRows_at (by rw [HL5.out]; exact hj)]; rfl) (fun j hj => by rw [pwRow_len]; omega)
      have HRL := Lib.hid hRL
      have HO := Lib.hid (hO.lowB (B := w.heap.size) (by omega))
      clear hRL hO
      go_wp2
      go_ret2
      exact ⟨A9, c9, by rw [HV.out.1, HV.out.2, HRL.out]; rfl, by rw [HV.out.1, HRL.out]; exact HO.out, bseq hB4 (hbel.mono (Nat.le_refl _))⟩
end Go.Proofs.Ytfmhbphbgdijpaa
