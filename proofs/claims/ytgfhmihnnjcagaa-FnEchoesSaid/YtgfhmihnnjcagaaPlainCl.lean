/- plain: a clear echo is found where it begins -/
import Derived.Test.YtgfhmihnnjcagaaPlainMt
import Derived.Test.YtgfhmihnnjcagaaW7
import Derived.Test.YtgfhmihnnjcagaaW12
set_option linter.unusedVariables false
set_option linter.unusedSimpArgs false
namespace Go.Proofs.Ytgfhmihnnjcagaa
open Go.RowKit
theorem mt_late {xs ps : List Int} {g : Int} {at0 k : Nat} (hx : ∀ i, xs.getD i 0 = if at0 ≤ i ∧ i < at0 + ps.length then g * ps.getD (i - at0) 0 else 0) (hk : at0 ≤ k) (n : Nat) (hn : n ≤ ps.length) :
    mtTo xs ps k n = g * corrTo ps (k - at0) (min n (ps.length - (k - at0))) := by
  induction n with
  | zero => simp [mtTo, corrTo]
  | succ n ih =>
    simp only [mtTo]
    rw [ih (by omega), hx]
    by_cases h : k + n < at0 + ps.length
    · rw [if_pos ⟨by omega, h⟩, show min n (ps.length - (k - at0)) = n by omega, show min (n + 1) (ps.length - (k - at0)) = n + 1 by omega, show k + n - at0 = n + (k - at0) by omega]
      simp only [corrTo]
      grind
    · rw [if_neg (by omega), show min (n + 1) (ps.length - (k - at0)) = min n (ps.length - (k - at0)) by omega]
      omega
theorem mt_early {xs ps : List Int} {g : Int} {at0 k : Nat} (hx : ∀ i, xs.getD i 0 = if at0 ≤ i ∧ i < at0 + ps.length then g * ps.getD (i - at0) 0 else 0) (hk : k < at0) (n : Nat) (hn : n ≤ ps.length) :
    mtTo xs ps k n = g * corrTo ps (at0 - k) (n - (at0 - k)) := by
  induction n with
  | zero => simp [mtTo, corrTo]
  | succ n ih =>
    simp only [mtTo]
    rw [ih (by omega), hx]
    by_cases h : at0 ≤ k + n
    · obtain ⟨m, hm⟩ : ∃ m, n = m + (at0 - k) := ⟨n - (at0 - k), by omega⟩
      rw [if_pos ⟨h, by omega⟩, show n + 1 - (at0 - k) = m + 1 by omega, show n - (at0 - k) = m by omega, show k + n - at0 = m by omega, hm]
      simp only [corrTo]
      grind
    · rw [if_neg (by omega), show n + 1 - (at0 - k) = n - (at0 - k) by omega]
      omega
/-- the distance of two places -/
def far (a b : Nat) : Nat := (a - b) + (b - a)
theorem mt_echo {xs ps : List Int} {g : Int} {at0 k : Nat} (hx : ∀ i, xs.getD i 0 = if at0 ≤ i ∧ i < at0 + ps.length then g * ps.getD (i - at0) 0 else 0) :
    mt xs ps k = g * corr ps (far k at0) := by
  unfold mt corr far
  rcases Nat.lt_or_ge k at0 with h | h
  · rw [mt_early hx h _ (Nat.le_refl _), show k - at0 + (at0 - k) = at0 - k by omega]
  · rw [mt_late hx h _ (Nat.le_refl _), show k - at0 + (at0 - k) = k - at0 by omega, show min ps.length (ps.length - (k - at0)) = ps.length - (k - at0) by omega]
theorem far_zero (a : Nat) : far a a = 0 := by unfold far; omega
theorem corr_out {xs : List Int} {k : Nat} (h : xs.length ≤ k) : corr xs k = 0 := by
  unfold corr; rw [show xs.length - k = 0 by omega]; rfl
theorem corr_side {xs : List Int} {k : Nat} (h : 1 ≤ k) (h0 : 0 ≤ side xs) : iabs (corr xs k) ≤ side xs := by
  rcases Nat.lt_or_ge k xs.length with h1 | h1
  · exact side_ge xs h h1
  · rw [corr_out h1]; exact h0
theorem noise_bd {xs ys ps : List Int} {e : Int} {k : Nat} (he : 0 ≤ e) (n : Nat) (h : ∀ j, j < n → -e ≤ ys.getD (k + j) 0 - xs.getD (k + j) 0 ∧ ys.getD (k + j) 0 - xs.getD (k + j) 0 ≤ e) :
    -(e * wtTo ps n) ≤ mtTo ys ps k n - mtTo xs ps k n ∧ mtTo ys ps k n - mtTo xs ps k n ≤ e * wtTo ps n := by
  induction n with
  | zero => simp [mtTo, wtTo]
  | succ n ih =>
    have ih := ih (fun j hj => h j (by omega))
    have h1 := h n (by omega)
    have h2 := mul_bd (a := ps.getD n 0) (b := ys.getD (k + n) 0 - xs.getD (k + n) 0) (A := iabs (ps.getD n 0)) (B := e) (by unfold iabs; omega) h1
    simp only [mtTo, wtTo]
    rw [Int.mul_sub] at h2
    rw [Int.mul_add]
    rw [Int.mul_comm (iabs _) e] at h2
    omega
theorem peak_is {xs : List Int} {a n : Nat} (hn : n = xs.length) (ha : a < n) (h : ∀ k, k < n → k ≠ a → iabs (xs.getD k 0) < iabs (xs.getD a 0)) : peakTo xs n = a := by
  have key : ∀ m, m ≤ n → (m ≤ a → peakTo xs m ≤ m - 1) ∧ (a < m → peakTo xs m = a) := by
    intro m
    induction m with
    | zero => intro _; exact ⟨fun _ => by simp [peakTo], fun h => by omega⟩
    | succ m ih =>
      intro hm
      obtain ⟨i1, i2⟩ := ih (by omega)
      refine ⟨fun h1 => ?_, fun h1 => ?_⟩
      · have := i1 (by omega)
        simp only [peakTo]; split <;> omega
      · simp only [peakTo]
        rcases Nat.lt_or_ge a m with h2 | h2
        · have h3 := i2 h2
          rw [h3, if_neg]
          have := h m (by omega) (by omega)
          omega
        · have h3 : m = a := by omega
          subst h3
          by_cases h0 : peakTo xs m = m
          · rw [h0]; simp
          · rw [if_pos (h _ (by have := i1 (Nat.le_refl _); omega) h0)]
  exact (key n (Nat.le_refl _)).2 ha
theorem iabs_mul (a b : Int) : iabs (a * b) = iabs a * iabs b := by
  have h : ∀ x : Int, iabs x = (x.natAbs : Int) := fun x => by unfold iabs; omega
  rw [h, h, h, Int.natAbs_mul, Int.natCast_mul]
/-- a clear echo is found where it begins, whatever the noise -/
theorem clear_found {xs ys ps : List Int} {g e : Int} {a : Nat} (hx : ∀ i, xs.getD i 0 = if a ≤ i ∧ i < a + ps.length then g * ps.getD (i - a) 0 else 0)
    (he : 0 ≤ e) (hl : a + ps.length ≤ ys.length) (hp : 1 ≤ ps.length) (hc : clear ps g e = true)
    (hn : ∀ i, i < ys.length → -e ≤ ys.getD i 0 - xs.getD i 0 ∧ ys.getD i 0 - xs.getD i 0 ≤ e) (h0 : 0 ≤ side ps) : peakIx (mts ys ps) = a := by
  have hc2 : most ps e < iabs g * excess ps := by simpa [clear] using hc
  have hE : 0 ≤ corr ps 0 := corrTo_nonneg ps _
  have hab : iabs (corr ps 0) = corr ps 0 := by unfold iabs; omega
  have hm : (mts ys ps).length = ys.length - ps.length + 1 := mts_len
  have val : ∀ k, k < (mts ys ps).length → (mts ys ps).getD k 0 - g * corr ps (far k a) ≤ e * wt ps ∧ -(e * wt ps) ≤ (mts ys ps).getD k 0 - g * corr ps (far k a) := by
    intro k hk
    rw [mts_get hk, ← mt_echo hx]
    have := noise_bd (xs := xs) (ys := ys) (ps := ps) (k := k) he ps.length (fun j hj => hn (k + j) (by omega))
    unfold mt wt
    omega
  unfold most excess at hc2
  rw [Int.mul_sub] at hc2
  have e1 : 2 * e * wt ps = 2 * (e * wt ps) := by rw [Int.mul_assoc]
  rw [e1] at hc2
  refine peak_is rfl (by omega) (fun k hk hne => ?_)
  have v1 := val k hk
  have v2 := val a (by omega)
  rw [far_zero] at v2
  have s1 := corr_side (xs := ps) (k := far k a) (by unfold far; omega) h0
  have a1 := iabs_mul g (corr ps (far k a))
  have a2 := iabs_mul g (corr ps 0)
  rw [hab] at a2
  have hg0 : 0 ≤ iabs g := by unfold iabs; omega
  have s2 := Int.mul_le_mul_of_nonneg_left s1 hg0
  generalize (mts ys ps).getD k 0 = u at *
  generalize (mts ys ps).getD a 0 = v at *
  generalize g * corr ps (far k a) = cu at *
  generalize g * corr ps 0 = cv at *
  generalize e * wt ps = ew at *
  generalize iabs g * side ps = gs at *
  generalize iabs g * corr ps 0 = ge at *
  unfold iabs at *
  omega
theorem ech_one {ps : List Int} {a : Nat} {g L : Int} (hL : (a : Int) + ps.length ≤ L) (i : Nat) :
    (ech ps [(a : Int)] [g] L).getD i 0 = if a ≤ i ∧ i < a + ps.length then g * ps.getD (i - a) 0 else 0 := by
  show (addTo (List.replicate L.toNat 0) ps (a : Int).toNat g ps.length).getD i 0 = _
  rw [addTo_at (by rw [List.length_replicate]; omega)]
  have : (List.replicate L.toNat (0 : Int)).getD i 0 = 0 := by
    rw [List.getD_eq_getElem?_getD]
    by_cases h : i < L.toNat
    · simp [h]
    · simp [List.getElem?_eq_none, h]
  rw [this, Int.zero_add]; rfl
theorem ech_one_len {ps : List Int} {a : Nat} {g L : Int} : (ech ps [(a : Int)] [g] L).length = L.toNat := echTo_len _ _ _ _ _
theorem echOk_one {ps : List Int} {a : Nat} {g L : Int} (hL : (a : Int) + ps.length ≤ L) (hL2 : L ≤ 400) (hg : -1000 ≤ g ∧ g ≤ 1000) : echOk ps [(a : Int)] [g] L = true := by
  have h1 : allIn (-1000) 1000 [g] = true := allIn_iff.2 (fun x hx => by rw [List.mem_singleton] at hx; omega)
  have h2 : allIn 0 (L - ps.length) [(a : Int)] = true := allIn_iff.2 (fun x hx => by rw [List.mem_singleton] at hx; omega)
  have h3 : inR L 0 400 = true := inR_iff.2 (by omega)
  simp [echOk, h1, h2, h3]
theorem ec_one {ps : List Int} {a : Nat} {g L : Int} (hs : isSig ps = true) (hL : (a : Int) + ps.length ≤ L) (hL2 : L ≤ 400) (hg : -1000 ≤ g ∧ g ≤ 1000) :
    (ecCode ps [(a : Int)] [g] L = 0 ∧ ecVal ps [(a : Int)] [g] L = ech ps [(a : Int)] [g] L ∧ isSig (ech ps [(a : Int)] [g] L) = true) ∨ ecCode ps [(a : Int)] [g] L = 3 := by
  have h := echOk_one (ps := ps) hL hL2 hg
  rcases Bool.eq_false_or_eq_true (isSig (ech ps [(a : Int)] [g] L)) with h2 | h2
  · have := ec_yes hs h h2
    exact .inl ⟨this.2, this.1, h2⟩
  · exact .inr (ec_no3 hs h h2).2
theorem side_nonneg (xs : List Int) : 0 ≤ side xs := by
  have : ∀ m, 0 ≤ sideTo xs m := fun m => by
    induction m with
    | zero => exact Int.le_refl _
    | succ m ih => simp only [sideTo]; omega
  exact this _
theorem wt_nonneg (xs : List Int) : 0 ≤ wt xs := by
  have : ∀ m, 0 ≤ wtTo xs m := fun m => by
    induction m with
    | zero => exact Int.le_refl _
    | succ m ih => simp only [wtTo]; unfold iabs; omega
  exact this _
theorem clear_pos {ps : List Int} {g e : Int} (he : 0 ≤ e) (hc : clear ps g e = true) : 0 < excess ps ∧ 1 ≤ iabs g ∧ 1 ≤ ps.length := by
  have hc2 : most ps e < iabs g * excess ps := by simpa [clear] using hc
  have hm : 0 ≤ most ps e := by unfold most; exact Int.mul_nonneg (by omega) (wt_nonneg ps)
  have hg0 : 0 ≤ iabs g := by unfold iabs; omega
  have h1 : 0 < excess ps := by
    rcases Int.lt_or_le 0 (excess ps) with h | h
    · exact h
    · have := Int.mul_nonneg_of_nonpos_of_nonpos (a := -iabs g) (b := excess ps) (by omega) h
      rw [Int.neg_mul] at this; omega
  refine ⟨h1, ?_, ?_⟩
  · rcases Int.lt_or_le 0 (iabs g) with h | h
    · omega
    · have : iabs g = 0 := by omega
      rw [this] at hc2; omega
  · rcases Nat.eq_zero_or_pos ps.length with h | h
    · exfalso
      have e1 : corr ps 0 = 0 := corr_out (by omega)
      have := side_nonneg ps
      unfold excess at h1; omega
    · exact h
/-- the least gain is at most the gain of a clear echo -/
theorem lg_clear {ps : List Int} {g e : Int} (hs : isSig ps = true) (he : 0 ≤ e) (he2 : e ≤ 1000) (hg : iabs g ≤ 1000) (hc : clear ps g e = true) : lgCode ps e = 0 ∧ lgVal ps e ≤ iabs g := by
  have hp := clear_pos he hc
  have hc2 : most ps e < iabs g * excess ps := by simpa [clear] using hc
  have hm : 0 ≤ most ps e := by unfold most; exact Int.mul_nonneg (by omega) (wt_nonneg ps)
  have hd : (most ps e).tdiv (excess ps) + 1 ≤ iabs g := by
    rw [Int.tdiv_eq_ediv_of_nonneg hm]
    have := Int.ediv_lt_of_lt_mul hp.1 hc2
    omega
  have hf : lgFound ps e = true := by simp [lgFound, hp.1]; omega
  have he3 : inR e 0 1000 = true := inR_iff.2 ⟨he, he2⟩
  exact ⟨by simp [lgCode, hs, he3, hf], by simp [lgVal, hs, he3, hf]; exact hd⟩
/-- with no noise: the first peak, its gain, and nothing behind it -/
theorem near_mul {g E : Int} (hE : 0 < E) : near (g * E) E = g := by
  have h1 : g * E / E = g := Int.mul_ediv_cancel g (by omega)
  have h2 : g * E % E = 0 := Int.mul_emod_left g E
  unfold near
  rw [h1, h2, if_neg]
  omega
theorem getD_rep (L i : Nat) : (List.replicate L (0 : Int)).getD i 0 = 0 := by
  rw [List.getD_eq_getElem?_getD]
  by_cases h : i < L
  · simp [h]
  · simp [List.getElem?_eq_none, h]
theorem fe_one {ps : List Int} {a : Nat} {g L : Int} (hs : isSig ps = true) (hL : (a : Int) + ps.length ≤ L) (hL2 : L ≤ 400) (hg : 1 ≤ g ∧ g ≤ 1000) (hc : clear ps g 0 = true) (hx : isSig (ech ps [(a : Int)] [g] L) = true) :
    feAll (ech ps [(a : Int)] [g] L) ps 1 5 = ([(a : Int)], [g], 0) := by
  have hp := clear_pos (Int.le_refl 0) hc
  obtain ⟨xs, hxs⟩ : ∃ xs, xs = ech ps [(a : Int)] [g] L := ⟨_, rfl⟩
  have hv : ∀ i, xs.getD i 0 = if a ≤ i ∧ i < a + ps.length then g * ps.getD (i - a) 0 else 0 := fun i => by rw [hxs]; exact ech_one hL i
  have hl : xs.length = L.toNat := by rw [hxs]; exact ech_one_len
  rw [← hxs] at hx ⊢
  have hE : 0 < corr ps 0 := by have := side_nonneg ps; have := hp.1; unfold excess at this; omega
  have hat : feAt xs ps = a := clear_found hv (Int.le_refl 0) (by omega) hp.2.2 hc (fun i _ => by omega) (side_nonneg ps)
  have hml : a < (mts xs ps).length := by rw [mts_len]; omega
  have hV : feV xs ps = g * corr ps 0 := by unfold feV; rw [hat, mts_get hml, mt_echo hv, far_zero]
  have hG : feG xs ps = g := by unfold feG; rw [hV, near_mul hE]
  have hgE : 1 ≤ g * corr ps 0 := by
    have := Int.mul_pos (show 0 < g by omega) hE; omega
  have hN : feNext xs ps = List.replicate xs.length 0 := by
    refine eq_of_getD (by rw [feNext_len, List.length_replicate]) (fun i _ => ?_)
    unfold feNext
    rw [hat, hG, addTo_at (by omega), hv i, getD_rep]
    split
    · grind
    · rfl
  have hNs : isSig (feNext xs ps) = true := by
    rw [hN]
    refine isSig_iff.2 ⟨by rw [List.length_replicate]; omega, fun x hx => by rw [List.eq_of_mem_replicate hx]; omega⟩
  have hmc : mCode xs ps = 0 := mCode_ok hx hs hp.2.2 (by omega)
  have hstop : feV (feNext xs ps) ps = 0 := by
    have hl2 := feNext_len xs ps
    have h2 := feAt_lt (xs := feNext xs ps) (ps := ps) hp.2.2 (by omega)
    unfold feV
    rw [mts_get (by rw [mts_len]; omega)]
    have hz : ∀ k n, mtTo (feNext xs ps) ps k n = 0 := fun k n => by
      induction n with
      | zero => rfl
      | succ n ih => simp only [mtTo]; rw [ih, hN, getD_rep]; omega
    exact hz _ _
  have hc0 : feCode0 xs ps 1 5 = 0 := by simp [feCode0, hmc, feOk, inR]
  unfold feAll
  rw [if_pos hc0, show (5 : Int).toNat = 4 + 1 from rfl, feRun_go (by rw [hV, hG]; unfold iabs; omega) hNs, feRun_stop (.inl (by rw [hstop]; decide)), hat, hG]
  rfl
theorem feAll_most (xs ps : List Int) (t m : Int) : ((feAll xs ps t m).1.length : Int) ≤ max 0 m := by
  unfold feAll; split
  · have := (feRun_len (ps := ps) (t := t) (j := m.toNat) (xs := xs) (ds := []) (gs := []) (L := m.toNat) (by simp) rfl).1
    omega
  · simp; omega
theorem fe_code {xs ps : List Int} {t m : Int} (h : (feAll xs ps t m).2.2 ≠ 1) (h2 : (feAll xs ps t m).2.2 ≠ 5) : isSig ps = true ∧ 1 ≤ ps.length := by
  by_cases hm : mCode xs ps = 0
  · have := mCode_zero hm; exact ⟨this.2.1, this.2.2.1⟩
  · exfalso
    have h0 : feCode0 xs ps t m = mCode xs ps := by unfold feCode0; rw [if_neg hm]
    have h3 : (feAll xs ps t m).2.2 = mCode xs ps := by unfold feAll; rw [h0, if_neg hm]
    rw [h3] at h h2
    unfold mCode at h h2 hm
    by_cases h5 : (isSig xs && isSig ps) = true
    · rw [if_pos h5] at h2 hm
      by_cases h6 : ps.length = 0 ∨ xs.length < ps.length
      · rw [if_pos h6] at h2; exact h2 rfl
      · rw [if_neg h6] at hm; exact hm rfl
    · rw [if_neg h5] at h; exact h rfl
theorem clr_ok {ps : List Int} {g e : Int} (h : clrCode ps g e = 0) (h2 : clrVal ps g e = true) : isSig ps = true ∧ (-1000 ≤ g ∧ g ≤ 1000) ∧ (0 ≤ e ∧ e ≤ 1000) ∧ clear ps g e = true := by
  simp only [clrVal, Bool.and_eq_true, inR_iff] at h2
  exact ⟨h2.1.1, h2.1.2.1, h2.1.2.2, h2.2⟩
theorem clr_in {ps : List Int} {g : Int} (h : isSig ps = true) (hg : 1 ≤ g ∧ g ≤ 1000) : clrCode ps g 0 = 0 ∧ (clrVal ps g 0 = true → clear ps g 0 = true) := by
  have e1 : inR g (-1000) 1000 = true := inR_iff.2 (by omega)
  have e2 : inR 0 0 1000 = true := inR_iff.2 (by omega)
  exact ⟨by simp [clrCode, h, e1, e2], fun h2 => by simpa [clrVal, h, e1, e2] using h2⟩
end Go.Proofs.Ytgfhmihnnjcagaa
