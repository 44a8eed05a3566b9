/- walks: EchoesOf -/
import Derived.Test.YtgfhmihnnjcagaaW11
import Derived.Deep.QuietTactic
import Derived.BigQuiet
set_option linter.unusedVariables false
set_option linter.unusedSimpArgs false
namespace Go.Proofs.Ytgfhmihnnjcagaa
open Go.RowKit

set_option maxHeartbeats 4000000 in
theorem iAre_any (A : Option Addr) (n c : Nat) (ps : List Int) (B : Option Addr) (m d : Nat) (ds : List Int) (G : Option Addr) (k e : Nat) (gs : List Int) (L : Int) (w : World) (hn : ps.length = n) (hnc : n ≤ c) (hm : n ≤ 1048576) (hr : Rd w A ps) (hn2 : ds.length = m) (hnc2 : m ≤ d) (hm2 : m ≤ 1048576) (hr2 : Rd w B ds) (hn3 : gs.length = k) (hnc3 : k ≤ e) (hm3 : k ≤ 1048576) (hr3 : Rd w G gs) :
    Calls Try.prog 96 #[.slice A n c, .slice B m d, .slice G k e, .int .i64 L] w fun en w9 => en = .returned (.bool (echOk ps ds gs L)) ∧ w = w9 := by
  rcases Bool.eq_false_or_eq_true (inR L 0 400) with g1 | g1
  · have l1 := inR_iff.1 g1
    by_cases g2 : m ≤ 200
    · have b2 : decide ((m : Int) ≤ 200) = true := decide_eq_true (by omega)
      by_cases g3 : k = m
      · have b3 : ((k : Int) == m) = true := by simp; omega
        have b4 : ((k : Int) != m) = false := by simp; omega
        have b5 : decide ((k : Int) ≤ 200) = true := decide_eq_true (by omega)
        rcases Bool.eq_false_or_eq_true (allIn (-1000) 1000 gs) with g4 | g4
        · rcases Bool.eq_false_or_eq_true (allIn 0 (L - n) ds) with g5 | g5
          · have HV : Hid (echOk ps ds gs L = true) := by show _ = _; simp [echOk, hn, hn2, hn3, g1, g2, g3, g4, g5]
            have G3 := Lib.hid g3; clear g3
            go_enter Try.func96, Try.ntmps96
            go_wp2_with (first | (go_at_call 79; refine (within_any _ _ _ _).mono ?_; rintro en w1 ⟨rfl, rfl⟩) | (go_at_call 106; refine (areWithin_any _ _ _ _ _ _ _ (by assumption) (by omega) (by assumption)).mono ?_; rintro en w1 ⟨rfl, rfl⟩) | (go_at_call 83; refine (len_any _ _ _ _).mono ?_; rintro en w1 ⟨rfl, rfl⟩))
            go_ret
            exact ⟨by rw [HV.out]; rfl, rfl⟩
          · have HV : Hid (echOk ps ds gs L = false) := by show _ = _; simp [echOk, hn, hn2, hn3, g1, g2, g3, g4, g5]
            have G3 := Lib.hid g3; clear g3
            go_enter Try.func96, Try.ntmps96
            go_wp2_with (first | (go_at_call 79; refine (within_any _ _ _ _).mono ?_; rintro en w1 ⟨rfl, rfl⟩) | (go_at_call 106; refine (areWithin_any _ _ _ _ _ _ _ (by assumption) (by omega) (by assumption)).mono ?_; rintro en w1 ⟨rfl, rfl⟩) | (go_at_call 83; refine (len_any _ _ _ _).mono ?_; rintro en w1 ⟨rfl, rfl⟩))
            go_ret
            exact ⟨by rw [HV.out]; rfl, rfl⟩
        · have HV : Hid (echOk ps ds gs L = false) := by show _ = _; simp [echOk, hn, hn2, hn3, g1, g2, g3, g4]
          have G3 := Lib.hid g3; clear g3
          rcases Bool.eq_false_or_eq_true (allIn 0 (L - n) ds) with g5 | g5
          · go_enter Try.func96, Try.ntmps96
            go_wp2_with (first | (go_at_call 79; refine (within_any _ _ _ _).mono ?_; rintro en w1 ⟨rfl, rfl⟩) | (go_at_call 106; refine (areWithin_any _ _ _ _ _ _ _ (by assumption) (by omega) (by assumption)).mono ?_; rintro en w1 ⟨rfl, rfl⟩) | (go_at_call 83; refine (len_any _ _ _ _).mono ?_; rintro en w1 ⟨rfl, rfl⟩))
            go_ret
            exact ⟨by rw [HV.out]; rfl, rfl⟩
          · go_enter Try.func96, Try.ntmps96
            go_wp2_with (first | (go_at_call 79; refine (within_any _ _ _ _).mono ?_; rintro en w1 ⟨rfl, rfl⟩) | (go_at_call 106; refine (areWithin_any _ _ _ _ _ _ _ (by assumption) (by omega) (by assumption)).mono ?_; rintro en w1 ⟨rfl, rfl⟩) | (go_at_call 83; refine (len_any _ _ _ _).mono ?_; rintro en w1 ⟨rfl, rfl⟩))
            go_ret
            exact ⟨by rw [HV.out]; rfl, rfl⟩
      · have b3 : ((k : Int) == m) = false := by simp; omega
        have b4 : ((k : Int) != m) = true := by simp; omega
        have HV : Hid (echOk ps ds gs L = false) := by show _ = _; simp [echOk, hn, hn2, hn3, g1, g2, g3]
        go_enter Try.func96, Try.ntmps96
        go_wp2_with (first | (go_at_call 79; refine (within_any _ _ _ _).mono ?_; rintro en w1 ⟨rfl, rfl⟩) | (go_at_call 106; refine (areWithin_any _ _ _ _ _ _ _ (by assumption) (by omega) (by assumption)).mono ?_; rintro en w1 ⟨rfl, rfl⟩) | (go_at_call 83; refine (len_any _ _ _ _).mono ?_; rintro en w1 ⟨rfl, rfl⟩))
        go_ret
        exact ⟨by rw [HV.out]; rfl, rfl⟩
    · have b2 : decide ((m : Int) ≤ 200) = false := decide_eq_false (by omega)
      have b6 : (200 : Int) < m := by omega
      have HV : Hid (echOk ps ds gs L = false) := by show _ = _; simp [echOk, hn, hn2, hn3, g1, g2]
      go_enter Try.func96, Try.ntmps96
      go_wp2_with (first | (go_at_call 79; refine (within_any _ _ _ _).mono ?_; rintro en w1 ⟨rfl, rfl⟩) | (go_at_call 106; refine (areWithin_any _ _ _ _ _ _ _ (by assumption) (by omega) (by assumption)).mono ?_; rintro en w1 ⟨rfl, rfl⟩) | (go_at_call 83; refine (len_any _ _ _ _).mono ?_; rintro en w1 ⟨rfl, rfl⟩))
      go_ret
      exact ⟨by rw [HV.out]; rfl, rfl⟩
  · have HV : Hid (echOk ps ds gs L = false) := by show _ = _; simp [echOk, hn, hn2, hn3, g1]
    go_enter Try.func96, Try.ntmps96
    go_wp2_with (first | (go_at_call 79; refine (within_any _ _ _ _).mono ?_; rintro en w1 ⟨rfl, rfl⟩) | (go_at_call 106; refine (areWithin_any _ _ _ _ _ _ _ (by assumption) (by omega) (by assumption)).mono ?_; rintro en w1 ⟨rfl, rfl⟩) | (go_at_call 83; refine (len_any _ _ _ _).mono ?_; rintro en w1 ⟨rfl, rfl⟩))
    go_ret
    exact ⟨by rw [HV.out]; rfl, rfl⟩

theorem ec_no1 {ps ds gs : List Int} {L : Int} (h : isSig ps = false) : ecVal ps ds gs L = [] ∧ ecCode ps ds gs L = 1 := by simp [ecVal, ecCode, h]
theorem ec_no2 {ps ds gs : List Int} {L : Int} (h : isSig ps = true) (h2 : echOk ps ds gs L = false) : ecVal ps ds gs L = [] ∧ ecCode ps ds gs L = 2 := by simp [ecVal, ecCode, h, h2]
theorem ec_no3 {ps ds gs : List Int} {L : Int} (h : isSig ps = true) (h2 : echOk ps ds gs L = true) (h3 : isSig (ech ps ds gs L) = false) : ecVal ps ds gs L = [] ∧ ecCode ps ds gs L = 3 := by simp [ecVal, ecCode, h, h2, h3]
theorem ec_yes {ps ds gs : List Int} {L : Int} (h : isSig ps = true) (h2 : echOk ps ds gs L = true) (h3 : isSig (ech ps ds gs L) = true) : ecVal ps ds gs L = ech ps ds gs L ∧ ecCode ps ds gs L = 0 := by simp [ecVal, ecCode, h, h2, h3]
theorem Cells.grown_far {w w2 : World} {g g2 off : Nat} {xs : List Int} (h : Cells w g off xs) (hb : w.grownBy w2 (some g2)) (hne : g ≠ g2) : Cells w2 g off xs := h.far hb hne

theorem addEcho2_any (g n c : Nat) (ys : List Int) (B : Option Addr) (p e : Nat) (ps : List Int) (d : Nat) (gn M : Int) (w : World) (hn : ys.length = n) (hp : ps.length = p) (hnm : n ≤ 400) (hdp : d + p ≤ n)
    (hM : 0 ≤ M) (hM2 : M ≤ 1000000000000000) (hb : Hid (Bd M ys)) (hs : Hid (Sig ps)) (hg : -1000000000 ≤ gn ∧ gn ≤ 1000000000) (hc : Cells w g 0 ys) (hr : Rd w B ps) (hB : ∀ b off, B = some ⟨b, off, none⟩ → 0 < p → b ≠ g) :
    Calls Try.prog 97 #[.slice (some ⟨g, 0, none⟩) n c, .slice B p e, .int .i64 d, .int .i64 gn] w fun en w9 => en = .returned (.tuple #[]) ∧ Cells w9 g 0 (addTo ys ps d gn p) ∧ w.grownBy w9 (some g) := by
  rcases Nat.eq_zero_or_pos p with h0 | h0
  · have hx : ps = [] := List.eq_nil_of_length_eq_zero (by omega)
    subst hx
    subst h0
    have HC := Lib.hid hc
    clear hc hr hn hp
    go_enter Try.func97, Try.ntmps97
    go_wp2
    refine wp_loop_rounds 1 ?_
    rw [rounds_succ]
    go_wp2
    go_end0
    exact ⟨rfl, HC.out, World.grownBy.refl _ _⟩
  · exact addEcho_any g n c ys B p e ps d gn M w hn hp hnm hdp hM hM2 hb hs hg hc hr (fun b off e => hB b off e h0)
set_option maxHeartbeats 8000000 in
theorem iEch_any (A : Option Addr) (n c : Nat) (ps : List Int) (B : Option Addr) (m d : Nat) (ds : List Int) (G : Option Addr) (k e : Nat) (gs : List Int) (L : Int) (w : World) (hn : ps.length = n) (hnc : n ≤ c) (hm : n ≤ 1048576) (hr : Rd w A ps) (hn2 : ds.length = m) (hnc2 : m ≤ d) (hm2 : m ≤ 1048576) (hr2 : Rd w B ds) (hn3 : gs.length = k) (hnc3 : k ≤ e) (hm3 : k ≤ 1048576) (hr3 : Rd w G gs) :
    Calls Try.prog 40 #[.slice A n c, .slice B m d, .slice G k e, .int .i64 L] w fun en w9 => ∃ A9 c9, en = .returned (.tuple #[.slice A9 (ecVal ps ds gs L).length c9, .int .i64 (ecCode ps ds gs L)]) ∧ OwnR w9 w.heap.size A9 (ecVal ps ds gs L).length c9 (ecVal ps ds gs L) ∧ Below w.heap.size w w9 := by
  rcases Bool.eq_false_or_eq_true (isSig ps) with h | h
  · have hs := isSig_iff.1 h
    have hl : n ≤ 400 := by rw [← hn]; exact hs.1
    have HSP := Lib.hid hs.2
    clear hs
    rcases Bool.eq_false_or_eq_true (echOk ps ds gs L) with h2 | h2
    · have hok := echOk_bd h2
      obtain ⟨l, rfl⟩ : ∃ l : Nat, L = l := ⟨L.toNat, by omega⟩
      have HO := Lib.hid hok
      have hl4 : l ≤ 400 := by omega
      have hmk := mk_ints l (by omega)
      clear hok
      go_enter Try.func40, Try.ntmps40
      go_wp2_with (first | (go_at_call 58; refine (iSig_any _ _ _ _ _ (by assumption) (by assumption) (by omega) (by first | assumption | exact Rd.drewN (by assumption) _ | exact Rd.drewN (Rd.drewN (by assumption) _) _)).mono ?_; rintro en w1 ⟨rfl, rfl⟩) | (go_at_call 96; refine (iAre_any _ _ _ _ _ _ _ _ _ _ _ _ _ _ (by assumption) (by assumption) (by omega) (by first | assumption | exact Rd.drewN (by assumption) _ | exact Rd.drewN (Rd.drewN (by assumption) _) _) (by assumption) (by assumption) (by omega) (by first | assumption | exact Rd.drewN (by assumption) _ | exact Rd.drewN (Rd.drewN (by assumption) _) _) (by assumption) (by assumption) (by omega) (by first | assumption | exact Rd.drewN (by assumption) _ | exact Rd.drewN (Rd.drewN (by assumption) _) _)).mono ?_; rintro en w1 ⟨rfl, rfl⟩))
      have HN := Lib.hid hn; have HN2 := Lib.hid hn2; have HN3 := Lib.hid hn3
      clear hn hn2 hn3
      go_loopw [11, 12, 28] (fun _ _ i wr => ∃ j : Nat, j ≤ m ∧ i = .int .i64 (j : Int) ∧ Hid (Cells wr w.heap.size 0 (echTo ps ds gs l j)) ∧ w.heap.size + 1 ≤ wr.heap.size ∧ Below w.heap.size w wr) (fun _ _ i _ => m - (intOf i).toNat)
      case atStart => exact ⟨0, Nat.zero_le _, rfl, zeros_cells w 2 l, by simp, by go_grown⟩
      case round =>
        obtain ⟨j, hj, rfl, HK, hsz, hbel⟩ := hrel
        by_cases hlt : j < m
        · have hd := HO.out.2.2.2.2.2 j (by rw [HN2.out]; exact hlt)
          have hg := HO.out.2.2.2.2.1.at j
          have hkm : j < k := by have h1 := HO.out.2.2.2.1; rw [HN2.out, HN3.out] at h1; omega
          have hbj := echTo_bd (L := l) (k := j) HSP.out HO.out.2.2.2.2.1 (fun i hi => by have h1 := HO.out.2.2.2.2.2 i (by rw [HN2.out]; omega); omega)
          rcases hr2 with h0 | ⟨b2, o2, hB, hc2⟩
          · exfalso; have h1 := HN2.out; rw [h0] at h1; simp at h1; omega
          rcases hr3 with h0 | ⟨b3, o3, hG, hc3⟩
          · exfalso; have h1 := HN3.out; rw [h0] at h1; simp at h1; omega
          subst hB
          subst hG
          have hx0 := hc2 j (by rw [HN2.out]; exact hlt)
          have hy0 := hc3 j (by rw [HN3.out]; exact hkm)
          have hx := (hbel.cell (World.block_lt_of_cell? w _ hx0)).trans hx0
          have hy := (hbel.cell (World.block_lt_of_cell? w _ hy0)).trans hy0
          clear hx0 hy0 hc2 hc3
          obtain ⟨dn, hdn⟩ : ∃ dn : Nat, ds.getD j 0 = (dn : Int) := ⟨(ds.getD j 0).toNat, by omega⟩
          obtain ⟨gn, hgn⟩ : ∃ gn, gn = gs.getD j 0 := ⟨_, rfl⟩
          rw [hdn] at hx hd
          rw [← hgn] at hy hg
          have hpl := HN.out
          have HE : Hid (echTo ps ds gs l (j + 1) = addTo (echTo ps ds gs l j) ps dn gn n) := by
            show _ = _; simp only [echTo]; rw [hdn, ← hgn, hpl]; rfl
          have hdp : dn + n ≤ l := by omega
          have HBJ : Hid (Bd (1000000 * j) (echTo ps ds gs l j)) := hbj
          have hrp := hr.below hbel
          have hpb : ∀ b off, A = some ⟨b, off, none⟩ → 0 < n → b < w.heap.size := fun b off hA h0 => by
            rcases hr with h1 | ⟨b2, o2, h1, hc1⟩
            · rw [h1] at hpl; simp at hpl; omega
            · rw [hA] at h1; cases h1; exact World.block_lt_of_cell? w _ (hc1 0 (by rw [hpl]; exact h0))
          have HPB := Lib.hid hpb
          have hi0 : (j : Int) < m := by omega
          have hi1 : (j : Int) < k := by omega
          have hm3 : (1000000 : Int) * j ≤ 1000000000000000 := by omega
          clear hdn hgn hpl hbj hpb
          go_wp2_with fail
          refine (addEcho2_any w.heap.size l l (echTo ps ds gs l j) A n c ps dn gn (1000000 * j) _ (echTo_len _ _ _ _ _) HN.out (by omega) hdp (by omega) hm3 HBJ HSP (by omega) HK.out hrp (fun b off hA h0 => Nat.ne_of_lt (HPB.out b off hA h0))).mono ?_
          rintro en w2 ⟨rfl, hc2, hg2⟩
          have HC2 : Hid (Cells w2 w.heap.size 0 (echTo ps ds gs l (j + 1))) := by show Cells _ _ _ _; rw [HE.out]; exact hc2
          have hb2 : Below w.heap.size w w2 := hbel.grown hg2 (by omega) (fun q hq => by injection hq with hq; omega)
          have hs2 : w.heap.size + 1 ≤ w2.heap.size := Nat.le_trans hsz hg2.size
          clear hc2
          go_wp2
          go_roundw
          case rel => exact ⟨j + 1, by omega, by go_num, HC2, hs2, hb2⟩
          case measure => simp [intOf]; omega
        · obtain rfl : j = m := by omega
          have HE : Hid (echTo ps ds gs l j = ech ps ds gs l) := by show _ = _; unfold ech; rw [HN2.out]; rfl
          have hc9 := HK.out
          rw [HE.out] at hc9
          have hlen : (ech ps ds gs l).length = l := by unfold ech; rw [echTo_len]; rfl
          have HL := Lib.hid hlen
          have hrd := hc9.rd
          have HC9 := Lib.hid hc9
          clear hc9
          go_wp2_with fail
          refine (iSig_any _ l l (ech ps ds gs l) _ hlen (Nat.le_refl _) (by omega) hrd).mono ?_
          rintro en wz ⟨rfl, rfl⟩
          clear hlen
          rcases Bool.eq_false_or_eq_true (isSig (ech ps ds gs l)) with h3 | h3
          · have HV := Lib.hid (ec_yes h h2 h3)
            go_wp2
            go_ret2
            exact ⟨some ⟨w.heap.size, 0, none⟩, l, by rw [HV.out.1, HV.out.2, HL.out]; rfl, by rw [HV.out.1, HL.out]; exact OwnR.of_cells HL.out (by omega) HC9.out, hbel⟩
          · have HV := Lib.hid (ec_no3 h h2 h3)
            go_wp2
            go_ret2
            exact ⟨none, 0, by rw [HV.out.1, HV.out.2]; rfl, by rw [HV.out.1]; exact ⟨rfl, Nat.le_refl _, .inl ⟨rfl, rfl⟩⟩, hbel⟩
    · have HV := Lib.hid (ec_no2 h h2)
      go_enter Try.func40, Try.ntmps40
      go_wp2_with (first | (go_at_call 58; refine (iSig_any _ _ _ _ _ (by assumption) (by assumption) (by omega) (by first | assumption | exact Rd.drewN (by assumption) _ | exact Rd.drewN (Rd.drewN (by assumption) _) _)).mono ?_; rintro en w1 ⟨rfl, rfl⟩) | (go_at_call 96; refine (iAre_any _ _ _ _ _ _ _ _ _ _ _ _ _ _ (by assumption) (by assumption) (by omega) (by first | assumption | exact Rd.drewN (by assumption) _ | exact Rd.drewN (Rd.drewN (by assumption) _) _) (by assumption) (by assumption) (by omega) (by first | assumption | exact Rd.drewN (by assumption) _ | exact Rd.drewN (Rd.drewN (by assumption) _) _) (by assumption) (by assumption) (by omega) (by first | assumption | exact Rd.drewN (by assumption) _ | exact Rd.drewN (Rd.drewN (by assumption) _) _)).mono ?_; rintro en w1 ⟨rfl, rfl⟩))
      go_ret2
      exact ⟨none, 0, by rw [HV.out.1, HV.out.2]; rfl, by rw [HV.out.1]; exact ⟨rfl, Nat.le_refl _, .inl ⟨rfl, rfl⟩⟩, by go_grown⟩
  · have HV := Lib.hid (ec_no1 (ds := ds) (gs := gs) (L := L) h)
    go_enter Try.func40, Try.ntmps40
    go_wp2_with (first | (go_at_call 58; refine (iSig_any _ _ _ _ _ (by assumption) (by assumption) (by omega) (by first | assumption | exact Rd.drewN (by assumption) _ | exact Rd.drewN (Rd.drewN (by assumption) _) _)).mono ?_; rintro en w1 ⟨rfl, rfl⟩) | (go_at_call 96; refine (iAre_any _ _ _ _ _ _ _ _ _ _ _ _ _ _ (by assumption) (by assumption) (by omega) (by first | assumption | exact Rd.drewN (by assumption) _ | exact Rd.drewN (Rd.drewN (by assumption) _) _) (by assumption) (by assumption) (by omega) (by first | assumption | exact Rd.drewN (by assumption) _ | exact Rd.drewN (Rd.drewN (by assumption) _) _) (by assumption) (by assumption) (by omega) (by first | assumption | exact Rd.drewN (by assumption) _ | exact Rd.drewN (Rd.drewN (by assumption) _) _)).mono ?_; rintro en w1 ⟨rfl, rfl⟩))
    go_ret2
    exact ⟨none, 0, by rw [HV.out.1, HV.out.2]; rfl, by rw [HV.out.1]; exact ⟨rfl, Nat.le_refl _, .inl ⟨rfl, rfl⟩⟩, by go_grown⟩
end Go.Proofs.Ytgfhmihnnjcagaa
