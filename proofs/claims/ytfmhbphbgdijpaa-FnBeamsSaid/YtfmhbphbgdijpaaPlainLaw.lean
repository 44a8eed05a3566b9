/- plain: beams, delays, plane waves -/
import Derived.Test.YtfmhbphbgdijpaaPlainBB
import Derived.Test.YtfmhbphbgdijpaaPlainW
set_option linter.unusedVariables false
set_option linter.unusedSimpArgs false
namespace Go.Proofs.Ytfmhbphbgdijpaa
open Go.RowKit
/-- f 0 + .. + f (m - 1) -/
def sumN (f : Nat → Int) : Nat → Int
  | 0 => 0
  | i + 1 => sumN f i + f i
theorem sumN_congr {f g : Nat → Int} {m : Nat} (h : ∀ j, j < m → f j = g j) : sumN f m = sumN g m := by
  induction m with
  | zero => rfl
  | succ m ih => simp only [sumN]; rw [ih (fun j hj => h j (by omega)), h m (by omega)]
theorem sumN_le {f g : Nat → Int} {m : Nat} (h : ∀ j, j < m → f j ≤ g j) : sumN f m ≤ sumN g m := by
  induction m with
  | zero => exact Int.le_refl _
  | succ m ih =>
    have := ih (fun j hj => h j (by omega))
    have := h m (by omega)
    simp only [sumN]; omega
theorem sumN_add (f g : Nat → Int) (m : Nat) : sumN (fun j => f j + g j) m = sumN f m + sumN g m := by
  induction m with
  | zero => rfl
  | succ m ih => simp only [sumN, ih]; omega
theorem sumN_mul (f : Nat → Int) (c : Int) (m : Nat) : sumN (fun j => c * f j) m = c * sumN f m := by
  induction m with
  | zero => simp [sumN]
  | succ m ih => simp only [sumN, ih]; rw [Int.mul_add]
theorem sumN_zero (m : Nat) : sumN (fun _ => 0) m = 0 := by
  induction m with
  | zero => rfl
  | succ m ih => simp only [sumN, ih]; omega
theorem sumN_swap (f : Nat → Nat → Int) (n m : Nat) : sumN (fun k => sumN (fun i => f i k) n) m = sumN (fun i => sumN (fun k => f i k) m) n := by
  induction n with
  | zero => simp only [sumN]; exact sumN_zero m
  | succ n ih =>
    simp only [sumN]
    rw [sumN_add, ih]
theorem sumN_nonneg {f : Nat → Int} {m : Nat} (h : ∀ j, j < m → 0 ≤ f j) : 0 ≤ sumN f m := by
  have := sumN_le (f := fun _ => 0) h
  rw [sumN_zero] at this; exact this
theorem sq_nn (x : Int) : 0 ≤ x * x := by
  rcases Int.le_total 0 x with h | h
  · exact Int.mul_nonneg h h
  · exact Int.mul_nonneg_of_nonpos_of_nonpos h h
theorem cs_one (a : Nat → Int) (n : Nat) (x : Int) : 2 * (sumN a n * x) ≤ sumN (fun i => a i * a i) n + n * (x * x) := by
  induction n with
  | zero => simp [sumN]
  | succ n ih =>
    have h1 := sq_nn (a n - x)
    have e1 : (a n - x) * (a n - x) = a n * a n + x * x - 2 * (a n * x) := by grind
    simp only [sumN]
    rw [Int.add_mul, show ((n + 1 : Nat) : Int) * (x * x) = n * (x * x) + x * x by grind]
    omega
/-- a sum's square is at most the sum of the squares, times their number -/
theorem cs (a : Nat → Int) (n : Nat) : sumN a n * sumN a n ≤ n * sumN (fun i => a i * a i) n := by
  induction n with
  | zero => simp [sumN]
  | succ n ih =>
    have h := cs_one a n (a n)
    simp only [sumN]
    rw [show (sumN a n + a n) * (sumN a n + a n) = sumN a n * sumN a n + 2 * (sumN a n * a n) + a n * a n by grind,
      show ((n + 1 : Nat) : Int) * (sumN (fun i => a i * a i) n + a n * a n) = n * sumN (fun i => a i * a i) n + n * (a n * a n) + sumN (fun i => a i * a i) n + a n * a n by grind]
    omega
def sqTo (xs : List Int) (m : Nat) : Int := sumN (fun j => xs.getD j 0 * xs.getD j 0) m
theorem sqTo_mono (xs : List Int) {i j : Nat} (h : i ≤ j) : sqTo xs i ≤ sqTo xs j := by
  induction j with
  | zero => rw [show i = 0 by omega]; exact Int.le_refl _
  | succ j ih =>
    rcases Nat.lt_or_ge i (j + 1) with h1 | h1
    · have := ih (by omega)
      have h2 := sq_nn (xs.getD j 0)
      simp only [sqTo, sumN] at *; omega
    · rw [show i = j + 1 by omega]; exact Int.le_refl _
theorem sqTo_corr (xs : List Int) (i : Nat) : corrTo xs 0 i = sqTo xs i := by
  induction i with
  | zero => rfl
  | succ i ih => simp only [corrTo, ih, sqTo, sumN, Nat.add_zero]
theorem corr_sq (xs : List Int) : corr xs 0 = sqTo xs xs.length := by
  unfold corr; rw [Nat.sub_zero, sqTo_corr]
/-- a place cut off at both ends -/
def cutAt (t : Int) (L : Nat) : Nat := min t.toNat L
theorem shift_to (xs : List Int) (d : Int) (m : Nat) : sumN (fun k => bAt xs (k + d) * bAt xs (k + d)) m ≤ sqTo xs (cutAt (m + d) xs.length) - sqTo xs (cutAt d xs.length) := by
  induction m with
  | zero => simp [sumN]
  | succ m ih =>
    simp only [sumN]
    by_cases h : inR ((m : Int) + d) 0 ((xs.length : Int) - 1) = true
    · have hr := inR_iff.1 h
      have e1 : cutAt ((m + 1 : Nat) + d) xs.length = cutAt (m + d) xs.length + 1 := by unfold cutAt; omega
      have e2 : cutAt ((m : Int) + d) xs.length = ((m : Int) + d).toNat := by unfold cutAt; omega
      have e3 : sqTo xs (cutAt (m + d) xs.length + 1) = sqTo xs (cutAt (m + d) xs.length) + xs.getD ((m : Int) + d).toNat 0 * xs.getD ((m : Int) + d).toNat 0 := by rw [e2]; rfl
      have e4 : bAt xs ((m : Int) + d) = xs.getD ((m : Int) + d).toNat 0 := by unfold bAt; rw [if_pos h]
      rw [e1, e3, e4]
      omega
    · have e4 : bAt xs ((m : Int) + d) = 0 := by unfold bAt; rw [if_neg h]
      have h2 := sqTo_mono xs (i := cutAt ((m : Int) + d) xs.length) (j := cutAt ((m + 1 : Nat) + d) xs.length) (by unfold cutAt; omega)
      rw [e4]
      omega
theorem shift_le (xs : List Int) (d : Int) (m : Nat) : sumN (fun k => bAt xs (k + d) * bAt xs (k + d)) m ≤ corr xs 0 := by
  have h1 := shift_to xs d m
  have h2 := sqTo_mono xs (i := cutAt ((m : Int) + d) xs.length) (j := xs.length) (by unfold cutAt; omega)
  have h3 := sqTo_mono xs (i := 0) (j := cutAt d xs.length) (Nat.zero_le _)
  have h4 : sqTo xs 0 = 0 := rfl
  rw [corr_sq]; omega
theorem bSum_sum (rows : List (List Int)) (ds : List Int) (k i : Nat) : bSum rows ds k i = sumN (fun i => bAt (rows.getD i []) (k + ds.getD i 0)) i := by
  induction i with
  | zero => rfl
  | succ i ih => simp only [bSum, sumN, ih]
theorem bVal_at {rows : List (List Int)} {ds : List Int} {k : Nat} (h : k < (rows.getD 0 []).length) : (bVal rows ds).getD k 0 = bSum rows ds k rows.length := getD_range h
theorem bPow_sum (rows : List (List Int)) (ds : List Int) : corr (bVal rows ds) 0 = sumN (fun k => bSum rows ds k rows.length * bSum rows ds k rows.length) (rows.getD 0 []).length := by
  rw [corr_sq, bVal_len rfl]
  exact sumN_congr (fun j hj => by rw [bVal_at hj])
/-- the energy of all rows -/
def enAll (rows : List (List Int)) (n : Nat) : Int := sumN (fun i => corr (rows.getD i []) 0) n
/-- a beam has at most as much power as all channels together, times their number -/
theorem bPow_le (rows : List (List Int)) (ds : List Int) : corr (bVal rows ds) 0 ≤ rows.length * enAll rows rows.length := by
  rw [bPow_sum]
  have h1 : sumN (fun k => bSum rows ds k rows.length * bSum rows ds k rows.length) (rows.getD 0 []).length ≤ sumN (fun k => (rows.length : Int) * sumN (fun i => bAt (rows.getD i []) (k + ds.getD i 0) * bAt (rows.getD i []) (k + ds.getD i 0)) rows.length) (rows.getD 0 []).length := by
    refine sumN_le (fun k _ => ?_)
    rw [bSum_sum]
    exact cs _ _
  rw [sumN_mul, sumN_swap] at h1
  have h2 : sumN (fun i => sumN (fun k => bAt (rows.getD i []) (k + ds.getD i 0) * bAt (rows.getD i []) (k + ds.getD i 0)) (rows.getD 0 []).length) rows.length ≤ enAll rows rows.length :=
    sumN_le (fun i _ => shift_le _ _ _)
  have h3 := Int.mul_le_mul_of_nonneg_left h2 (show (0 : Int) ≤ (rows.length : Int) by omega)
  omega
theorem enAll_bd {rows : List (List Int)} {n L : Nat} (h : Chans rows n L) (i : Nat) (hi : i ≤ n) : 0 ≤ enAll rows i ∧ enAll rows i ≤ 400000000 * i := by
  induction i with
  | zero => simp [enAll, sumN]
  | succ i ih =>
    have h1 := ih (by omega)
    have h2 := h.2.2.2.2 i (by omega)
    have h3 := corr_nn (rows.getD i [])
    have h4 : corr (rows.getD i []) 0 ≤ 400000000 := by
      have h5 := h.2.2.2.1
      have : ∀ m, m ≤ 400 → corrTo (rows.getD i []) 0 m ≤ 1000000 * m := fun m => by
        induction m with
        | zero => intro _; simp [corrTo]
        | succ m ih2 =>
          intro hm
          have a1 := ih2 (by omega)
          have a2 := bd_mul (h2.2.at m) (h2.2.at m)
          simp only [corrTo, Nat.add_zero]; omega
      have := this ((rows.getD i []).length - 0) (by omega)
      unfold corr
      omega
    simp only [enAll, sumN] at *
    omega
-- ---- the best beam
theorem bbTo_mono (rows : List (List Int)) (xs : List Int) (r v : Int) (g e : Nat → Int) {i m : Nat} (h : i ≤ m) : (bbTo rows xs r v g e i).1 ≤ (bbTo rows xs r v g e m).1 := by
  induction m with
  | zero => rw [show i = 0 by omega]; exact Nat.le_refl _
  | succ m ih =>
    rcases Nat.lt_or_ge i (m + 1) with h1 | h1
    · have h2 := ih (by omega)
      have h3 := (bbTo_bd rows xs r v g e m).1
      simp only [bbTo]; split
      · dsimp only; omega
      · exact h2
    · rw [show i = m + 1 by omega]; exact Nat.le_refl _
theorem bb_first {rows : List (List Int)} {xs : List Int} {r v : Int} {g e : Nat → Int} {i m : Nat} (h : i < m) (hp : (bbTo rows xs r v g e i).2 < bbPw rows xs r v g e i) : i ≤ (bbTo rows xs r v g e m).1 := by
  have h1 := bbTo_mono rows xs r v g e (i := i + 1) (m := m) (by omega)
  simp only [bbTo] at h1
  rw [if_pos hp] at h1
  exact h1
theorem bb_max (rows : List (List Int)) (xs : List Int) (r v : Int) (g e : Nat → Int) (i : Nat) : (bbTo rows xs r v g e (i + 1)).2 = max (bbTo rows xs r v g e i).2 (bbPw rows xs r v g e i) := by
  simp only [bbTo]; split
  · dsimp only; omega
  · omega
theorem bbCode_zero {rows : List (List Int)} {xs : List Int} {m : Nat} {f g e : Nat → Int} {r v : Int} (h : bbCode rows xs m f g e r v = 0) :
    isChans rows = true ∧ isArr xs = true ∧ allDir f g e m = true ∧ okWave r v = true ∧ xs.length = rows.length ∧ m ≤ 40 ∧ m ≠ 0 := by
  unfold bbCode at h
  by_cases h1 : (isChans rows && isArr xs && allDir f g e m) = true
  · rw [if_pos h1] at h
    by_cases h2 : (okWave r v && decide (xs.length = rows.length) && decide (m ≤ 40)) = true
    · rw [if_pos h2] at h
      by_cases h3 : m = 0
      · rw [if_pos h3] at h; omega
      · simp only [Bool.and_eq_true, decide_eq_true_eq] at h1 h2
        exact ⟨h1.1.1, h1.1.2, h1.2, h2.1.1, h2.1.2, h2.2, h3⟩
    · rw [if_neg h2] at h; omega
  · rw [if_neg h1] at h; omega
/-- what the law asks of each direction -/
theorem bb_each {rows : List (List Int)} {xs : List Int} {m k : Nat} {f g e : Nat → Int} {r v : Int} (h : bbCode rows xs m f g e r v = 0) (hk : k < m) :
    wvCode xs (f k) (g k) (e k) r v = 0 ∧ dlVal xs (f k) (g k) (e k) r v = dlys xs (10 * r * g k) (e k * v) ∧ bmCode rows (dlys xs (10 * r * g k) (e k * v)) = 0 ∧ bmVal rows (dlys xs (10 * r * g k) (e k * v)) = bVal rows (dlys xs (10 * r * g k) (e k * v)) := by
  obtain ⟨h1, h2, h3, h4, h5, _, _⟩ := bbCode_zero h
  have hd := allDir_at h3 hk
  have hw : wvCode xs (f k) (g k) (e k) r v = 0 := by simp [wvCode, h2, hd, h4]
  have hW := wvCode_zero hw
  have hs := dlys_small hd hW.2.2.2.2.2.1 hW.2.2.2.2.2.2 hW.2.1
  have hb : bmCode rows (dlys xs (10 * r * g k) (e k * v)) = 0 := by
    have ha : allIn (-1000000) 1000000 (dlys xs (10 * r * g k) (e k * v)) = true := allIn_iff.2 (fun x hx => by
      obtain ⟨i, hi, rfl⟩ := List.getElem_of_mem hx
      have := hs i; simpa [hi] using this)
    simp [bmCode, h1, ha, dlys_len, h5]
  exact ⟨hw, by simp [dlVal, hw], hb, by simp [bmVal, hb]⟩
-- ---- the mirrored direction
theorem near_neg {a b : Int} (hb : 0 < b) : near (-a) b = -near a b := by
  have h0 := Int.emod_nonneg a (show b ≠ 0 by omega)
  have h1 := Int.emod_lt_of_pos a hb
  have h2 := Int.mul_ediv_add_emod a b
  by_cases hz : a % b = 0
  · have hu := (Int.ediv_emod_unique (a := -a) (b := b) (q := -(a / b)) (r := 0) hb).2 ⟨by rw [Int.mul_neg]; omega, Int.le_refl _, hb⟩
    unfold near
    rw [hu.1, hu.2, hz]
    rw [if_neg (by omega), if_neg (by omega)]
  · have hu := (Int.ediv_emod_unique (a := -a) (b := b) (q := -(a / b) - 1) (r := b - a % b) hb).2 ⟨by rw [Int.mul_sub, Int.mul_neg]; omega, by omega, by omega⟩
    unfold near
    rw [hu.1, hu.2]
    generalize a / b = q at *
    generalize a % b = r at *
    by_cases c1 : b < 2 * r ∨ (2 * r = b ∧ q % 2 = 1)
    · rw [if_pos c1, if_neg (by omega)]; omega
    · rw [if_neg c1, if_pos (by omega)]; omega
theorem isDir_neg (c s h : Int) : isDir c (-s) h = isDir c s h := by
  unfold isDir
  have e1 : inR (-s) (-1000) 1000 = inR s (-1000) 1000 := by
    rw [Bool.eq_iff_iff, inR_iff, inR_iff]; omega
  have e2 : (-s != 0) = (s != 0) := by
    rw [Bool.eq_iff_iff]; simp
  have e3 : -s * -s = s * s := Int.neg_mul_neg s s
  have e4 : Int.gcd c (-s) = Int.gcd c s := Int.gcd_neg
  rw [e1, e3, e4]
  first | rw [e2] | skip
theorem wvCode_neg (xs : List Int) (c s h r v : Int) : wvCode xs c (-s) h r v = wvCode xs c s h r v := by
  unfold wvCode; rw [isDir_neg]
theorem dlys_neg {xs : List Int} {num den : Int} (hd : 0 < den) (k : Nat) : (dlys xs (-num) den).getD k 0 = -(dlys xs num den).getD k 0 := by
  by_cases hk : k < xs.length
  · rw [dlys_at hk, dlys_at hk, Int.mul_neg, near_neg hd]
  · rw [List.getD_eq_getElem?_getD, List.getD_eq_getElem?_getD, List.getElem?_eq_none (by rw [dlys_len]; omega), List.getElem?_eq_none (by rw [dlys_len]; omega)]; rfl
/-- the mirrored direction has the negative delays; no delay is off by more than half a sample -/
theorem mirror {xs : List Int} {c s h r v : Int} (hz : wvCode xs c s h r v = 0) :
    wvCode xs c (-s) h r v = 0 ∧ (dlVal xs c s h r v).length = xs.length ∧ (dlVal xs c (-s) h r v).length = xs.length ∧ (deVal xs c s h r v).length = xs.length ∧
    (∀ k, (dlVal xs c (-s) h r v).getD k 0 = -(dlVal xs c s h r v).getD k 0) ∧ (∀ k, k < xs.length → 0 ≤ (deVal xs c s h r v).getD k 0 ∧ (deVal xs c s h r v).getD k 0 ≤ 500) ∧ (∀ k, -1000000 ≤ (dlVal xs c s h r v).getD k 0 ∧ (dlVal xs c s h r v).getD k 0 ≤ 1000000) := by
  have hz2 : wvCode xs c (-s) h r v = 0 := by rw [wvCode_neg]; exact hz
  have hW := wvCode_zero hz
  have hden := den_bd hW.2.2.2.2.1 hW.2.2.2.2.2.2
  have hd : isDir c s h = true := by
    unfold wvCode at hz
    by_cases h1 : (isArr xs && isDir c s h) = true
    · simp only [Bool.and_eq_true] at h1; exact h1.2
    · rw [if_neg h1] at hz; omega
  have e1 : dlVal xs c s h r v = dlys xs (10 * r * s) (h * v) := by simp [dlVal, hz]
  have e2 : dlVal xs c (-s) h r v = dlys xs (-(10 * r * s)) (h * v) := by simp [dlVal, hz2, Int.mul_neg]
  have e3 : deVal xs c s h r v = dErrs xs (10 * r * s) (h * v) := by simp [deVal, hz]
  refine ⟨hz2, by rw [e1, dlys_len], by rw [e2, dlys_len], by rw [e3, dErrs_len], fun k => by rw [e1, e2]; exact dlys_neg (by omega) k, fun k hk => ?_, ?_⟩
  · rw [e3]
    have : (dErrs xs (10 * r * s) (h * v)).getD k 0 = eVal (xs.getD k 0) (10 * r * s) (h * v) := by simp [dErrs, hk]
    rw [this]
    exact eVal_bd (by omega)
  · rw [e1]; exact dlys_small hd hW.2.2.2.2.2.1 hW.2.2.2.2.2.2 hW.2.1
-- ---- plane waves
theorem pwRows_chans {ps ds : List Int} {st L : Int} (hs : Sig ps) (h1 : 1 ≤ ds.length) (h2 : ds.length ≤ 12) (h0 : 0 ≤ L) (h3 : L ≤ 400) : Chans (pwRows ps ds st L) ds.length L.toNat := by
  refine ⟨pwRows_len _ _ _ _, h1, h2, by omega, fun k hk => ?_⟩
  rw [pwRows_at hk]
  exact ⟨pwRow_len _ _ _, pwRow_sig hs⟩
theorem pw_bAt {ps : List Int} {L : Nat} {st d : Int} {k : Nat} (h1 : 0 ≤ st + d) (h2 : st + d + ps.length ≤ L) (h0 : 0 ≤ st) : bAt (pwRow ps L (st + d).toNat) (k + d) = if st ≤ k ∧ (k : Int) < st + ps.length then ps.getD (k - st.toNat) 0 else 0 := by
  unfold bAt
  rw [pwRow_len]
  by_cases h : inR ((k : Int) + d) 0 ((L : Int) - 1) = true
  · have hr := inR_iff.1 h
    rw [if_pos h, pwRow_at (by omega)]
    by_cases c : st ≤ k ∧ (k : Int) < st + ps.length
    · rw [if_pos c, if_pos (by omega)]; congr 1; omega
    · rw [if_neg c, if_neg (by omega)]
  · have hr : ¬ (0 ≤ (k : Int) + d ∧ (k : Int) + d ≤ (L : Int) - 1) := fun hh => h (inR_iff.2 hh)
    rw [if_neg h, if_neg (by omega)]
theorem pw_bSum {ps ds : List Int} {st L : Int} (h0 : 0 ≤ st) (hL : 0 ≤ L) (hf : ∀ i, i < ds.length → 0 ≤ st + ds.getD i 0 ∧ st + ds.getD i 0 + ps.length ≤ L) (k i : Nat) (hi : i ≤ ds.length) :
    bSum (pwRows ps ds st L) ds k i = i * (if st ≤ k ∧ (k : Int) < st + ps.length then ps.getD (k - st.toNat) 0 else 0) := by
  induction i with
  | zero => simp [bSum]
  | succ i ih =>
    have hi2 : i < ds.length := by omega
    simp only [bSum]
    rw [ih (by omega), pwRows_at hi2, pw_bAt (by have := hf i hi2; omega) (by have := hf i hi2; omega) h0, Int.natCast_add, Int.add_mul]
    simp
theorem pw_energy {ps : List Int} {L a : Nat} (h : a + ps.length ≤ L) : corr (pwRow ps L a) 0 = corr ps 0 := by
  rw [corr_sq, corr_sq, pwRow_len]
  have key : ∀ m, m ≤ L → sqTo (pwRow ps L a) m = sqTo ps (min (m - a) ps.length) := fun m => by
    induction m with
    | zero => intro _; simp [sqTo, sumN]
    | succ m ih =>
      intro hm
      have ih := ih (by omega)
      have e : sqTo (pwRow ps L a) (m + 1) = sqTo (pwRow ps L a) m + (pwRow ps L a).getD m 0 * (pwRow ps L a).getD m 0 := rfl
      rw [e, ih, pwRow_at (by omega)]
      by_cases c : a ≤ m ∧ m < a + ps.length
      · rw [if_pos c, show min (m - a) ps.length = m - a by omega, show min (m + 1 - a) ps.length = m - a + 1 by omega]; rfl
      · rw [if_neg c, show min (m + 1 - a) ps.length = min (m - a) ps.length by omega]; omega
  rw [key L (Nat.le_refl _), show min (L - a) ps.length = ps.length by omega]
/-- the beam of a plane wave with its own delays -/
theorem pw_beam {ps ds : List Int} {st L : Int} {n : Nat} (hn : ds.length = n) (h1 : 1 ≤ n) (h0 : 0 ≤ st) (hL : 0 ≤ L) (hf : ∀ i, i < n → 0 ≤ st + ds.getD i 0 ∧ st + ds.getD i 0 + ps.length ≤ L) (hst : st + ps.length ≤ L) :
    (bVal (pwRows ps ds st L) ds).length = L.toNat ∧ (∀ k, k < L.toNat → (bVal (pwRows ps ds st L) ds).getD k 0 = n * (if st ≤ k ∧ (k : Int) < st + ps.length then ps.getD (k - st.toNat) 0 else 0)) ∧ corr (bVal (pwRows ps ds st L) ds) 0 = n * n * corr ps 0 := by
  subst hn
  have hl : ((pwRows ps ds st L).getD 0 []).length = L.toNat := by rw [pwRows_at (by omega), pwRow_len]
  have hb : ∀ k, k < L.toNat → (bVal (pwRows ps ds st L) ds).getD k 0 = ds.length * (if st ≤ k ∧ (k : Int) < st + ps.length then ps.getD (k - st.toNat) 0 else 0) := fun k hk => by
    rw [bVal_at (by rw [hl]; exact hk), pwRows_len, pw_bSum h0 hL hf k _ (Nat.le_refl _)]
  refine ⟨bVal_len hl, hb, ?_⟩
  have hr : ∀ k, k < L.toNat → (pwRow ps L.toNat st.toNat).getD k 0 = if st ≤ k ∧ (k : Int) < st + ps.length then ps.getD (k - st.toNat) 0 else 0 := fun k hk => by
    rw [pwRow_at hk]
    by_cases c : st ≤ k ∧ (k : Int) < st + ps.length
    · rw [if_pos c, if_pos (by omega)]
    · rw [if_neg c, if_neg (by omega)]
  rw [← pw_energy (ps := ps) (L := L.toNat) (a := st.toNat) (by omega), corr_sq, corr_sq, bVal_len hl, pwRow_len]
  unfold sqTo
  rw [← sumN_mul]
  refine sumN_congr (fun k hk => ?_)
  rw [hb k hk, hr k hk]
  grind
/-- no other beam of a plane wave has more power -/
theorem pw_most {ps ds es : List Int} {st L : Int} {n : Nat} (hn : ds.length = n) (hL : 0 ≤ L) (hf : ∀ i, i < n → 0 ≤ st + ds.getD i 0 ∧ st + ds.getD i 0 + ps.length ≤ L) :
    corr (bVal (pwRows ps ds st L) es) 0 ≤ n * n * corr ps 0 := by
  have h := bPow_le (pwRows ps ds st L) es
  rw [pwRows_len, hn] at h
  have e : enAll (pwRows ps ds st L) n = n * corr ps 0 := by
    have : ∀ m, m ≤ n → enAll (pwRows ps ds st L) m = m * corr ps 0 := fun m => by
      induction m with
      | zero => intro _; simp [enAll, sumN]
      | succ m ih =>
        intro hm
        have i1 := ih (by omega)
        have e1 : enAll (pwRows ps ds st L) (m + 1) = enAll (pwRows ps ds st L) m + corr ((pwRows ps ds st L).getD m []) 0 := rfl
        have i2 := hf m (by omega)
        rw [e1, i1, pwRows_at (by omega), pw_energy (by omega)]
        grind
    exact this n (Nat.le_refl _)
  rw [e, ← Int.mul_assoc] at h
  exact h
/-- what the law asks of a plane wave -/
theorem pw_facts {ps xs : List Int} {c s h r v st L : Int} (hz : pwCode ps xs c s h r v st L = 0) :
    isSig ps = true ∧ wvCode xs c s h r v = 0 ∧ (1 ≤ xs.length ∧ xs.length ≤ 12) ∧ (0 ≤ L ∧ L ≤ 400) ∧ (0 ≤ st ∧ st ≤ 400) ∧ pwVal ps xs c s h r v st L = pwRows ps (dlVal xs c s h r v) st L ∧ (dlVal xs c s h r v).length = xs.length ∧
    (∀ i, i < xs.length → 0 ≤ st + (dlVal xs c s h r v).getD i 0 ∧ st + (dlVal xs c s h r v).getD i 0 + ps.length ≤ L) ∧ isChans (pwVal ps xs c s h r v st L) = true ∧ bmCode (pwVal ps xs c s h r v st L) (dlVal xs c s h r v) = 0 := by
  obtain ⟨h1, h2, h3, h4⟩ := pwCode_zero hz
  have hW := wvCode_zero h2
  simp only [pwOk, Bool.and_eq_true] at h3
  have hl := inR_iff.1 h3.1
  have hs := inR_iff.1 h3.2
  have m := mirror h2
  have e1 : dlVal xs c s h r v = dlys xs (10 * r * s) (h * v) := by simp [dlVal, h2]
  have e2 : pwVal ps xs c s h r v st L = pwRows ps (dlVal xs c s h r v) st L := by rw [e1]; simp [pwVal, hz]
  have hch : Chans (pwRows ps (dlVal xs c s h r v) st L) xs.length L.toNat := by
    have := pwRows_chans (ps := ps) (ds := dlVal xs c s h r v) (st := st) (L := L) (isSig_iff.1 h1).2 (by rw [m.2.1]; exact hW.1.1) (by rw [m.2.1]; exact hW.1.2) hl.1 hl.2
    rwa [m.2.1] at this
  have hic : isChans (pwVal ps xs c s h r v st L) = true := by
    rw [e2]
    refine isChans_iff.2 ?_
    rw [hch.1, (hch.2.2.2.2 0 hW.1.1).1]
    exact hch
  refine ⟨h1, h2, hW.1, hl, hs, e2, m.2.1, fun i hi => ?_, hic, ?_⟩
  · have := inR_iff.1 (fitTo_at h4 hi)
    rw [← e1] at this
    omega
  · have ha : allIn (-1000000) 1000000 (dlVal xs c s h r v) = true := allIn_iff.2 (fun x hx => by
      obtain ⟨i, hi, rfl⟩ := List.getElem_of_mem hx
      have := m.2.2.2.2.2.2 i; simpa [hi] using this)
    have hlen : (pwVal ps xs c s h r v st L).length = xs.length := by rw [e2, pwRows_len, m.2.1]
    simp [bmCode, hic, ha, m.2.1, hlen]
end Go.Proofs.Ytfmhbphbgdijpaa
