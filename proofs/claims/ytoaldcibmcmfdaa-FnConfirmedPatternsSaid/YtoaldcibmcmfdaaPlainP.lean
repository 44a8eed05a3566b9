/- plain: patterns of bits, their cases -/
import Derived.Test.YtoaldcibmcmfdaaLists
import Derived.Test.YtoaldcibmcmfdaaW5
set_option linter.unusedVariables false
set_option linter.unusedSimpArgs false
namespace Go.Proofs.Ytoaldcibmcmfdaa
open Go.RowKit
/-- the bits of x, the most significant of n first -/
def bit (n x i : Nat) : Int := ((x / 2 ^ (n - 1 - i) % 2 : Nat) : Int)
def bits (n x : Nat) : List Int := (List.range n).map (bit n x)
theorem bits_len (n x : Nat) : (bits n x).length = n := by simp [bits]
theorem bits_at {n x i : Nat} (h : i < n) : (bits n x).getD i 0 = bit n x i := by simp [bits, h]
theorem bit_01 (n x i : Nat) : 0 ≤ bit n x i ∧ bit n x i ≤ 1 := by unfold bit; omega
theorem bits_01 (n x : Nat) : ∀ b ∈ bits n x, 0 ≤ b ∧ b ≤ 1 := fun b hb => by
  obtain ⟨i, _, rfl⟩ := List.mem_map.1 hb
  exact bit_01 n x i
/-- all patterns of n bits, in the order of their numbers -/
def pats : Nat → List (List Int)
  | 0 => [[]]
  | n + 1 => (pats n).map (fun p => 0 :: p) ++ (pats n).map (fun p => 1 :: p)
theorem bits_low {n x : Nat} (h : x < 2 ^ n) : bits (n + 1) x = 0 :: bits n x := by
  unfold bits
  rw [List.range_succ_eq_map, List.map_cons, List.map_map]
  congr 1
  · unfold bit
    rw [show n + 1 - 1 - 0 = n by omega, Nat.div_eq_of_lt h]; rfl
  · apply List.map_congr_left
    intro i hi
    have := List.mem_range.1 hi
    show bit (n + 1) x (i + 1) = bit n x i
    unfold bit
    rw [show n + 1 - 1 - (i + 1) = n - 1 - i by omega]
theorem bits_high {n x : Nat} (h : x < 2 ^ n) : bits (n + 1) (2 ^ n + x) = 1 :: bits n x := by
  unfold bits
  rw [List.range_succ_eq_map, List.map_cons, List.map_map]
  congr 1
  · unfold bit
    rw [show n + 1 - 1 - 0 = n by omega, Nat.add_div_left _ (Nat.two_pow_pos n), Nat.div_eq_of_lt h]; rfl
  · apply List.map_congr_left
    intro i hi
    have hi2 := List.mem_range.1 hi
    show bit (n + 1) (2 ^ n + x) (i + 1) = bit n x i
    unfold bit
    rw [show n + 1 - 1 - (i + 1) = n - 1 - i by omega]
    have e : 2 ^ n = 2 ^ (n - 1 - i) * (2 * 2 ^ i) := by
      rw [show 2 * 2 ^ i = 2 ^ (i + 1) by rw [Nat.pow_succ]; omega, ← Nat.pow_add]; congr 1; omega
    rw [e, Nat.mul_add_div (Nat.two_pow_pos _), Nat.add_mod, Nat.mul_mod_right]
    simp
theorem pats_bits (n : Nat) : (List.range (2 ^ n)).map (bits n) = pats n := by
  induction n with
  | zero => rfl
  | succ n ih =>
    rw [show 2 ^ (n + 1) = 2 ^ n + 2 ^ n by rw [Nat.pow_succ]; omega, List.range_add, List.map_append, List.map_map]
    unfold pats
    rw [← ih, List.map_map, List.map_map]
    congr 1
    · apply List.map_congr_left
      intro x hx
      exact bits_low (List.mem_range.1 hx)
    · apply List.map_congr_left
      intro x hx
      exact bits_high (List.mem_range.1 hx)
theorem pats_len {n : Nat} {p : List Int} (h : p ∈ pats n) : p.length = n := by
  rw [← pats_bits] at h
  obtain ⟨x, _, rfl⟩ := List.mem_map.1 h
  exact bits_len n x
theorem pats_01 {n : Nat} {p : List Int} (h : p ∈ pats n) : ∀ b ∈ p, 0 ≤ b ∧ b ≤ 1 := by
  rw [← pats_bits] at h
  obtain ⟨x, _, rfl⟩ := List.mem_map.1 h
  exact bits_01 n x
/-- the sum of a function over the first k patterns -/
def gsum (f : List Int → Int) (n : Nat) : Nat → Int
  | 0 => 0
  | k + 1 => gsum f n k + f (bits n k)
theorem gsum_take (f : List Int → Int) (n k : Nat) : gsum f n k = lsum (((List.range k).map (bits n)).map f) := by
  induction k with
  | zero => rfl
  | succ k ih => rw [List.range_succ, List.map_append, List.map_append, lsum_append, ← ih]; simp [gsum, lsum]
theorem gsum_all (f : List Int → Int) (n : Nat) : gsum f n (2 ^ n) = lsum ((pats n).map f) := by rw [gsum_take, pats_bits]
theorem gsum_nonneg {f : List Int → Int} (n : Nat) (hf : ∀ x, 0 ≤ f (bits n x)) (k : Nat) : 0 ≤ gsum f n k := by
  induction k with
  | zero => exact Int.le_refl _
  | succ k ih => have := hf k; unfold gsum; omega
theorem gsum_mono {f : List Int → Int} (n : Nat) (hf : ∀ x, 0 ≤ f (bits n x)) {j k : Nat} (h : j ≤ k) : gsum f n j ≤ gsum f n k := by
  induction k with
  | zero => have : j = 0 := by omega
            subst this; exact Int.le_refl _
  | succ k ih =>
    rcases Nat.lt_or_ge k j with h1 | h1
    · have : j = k + 1 := by omega
      subst this; exact Int.le_refl _
    · have := ih h1; have := hf k
      show _ ≤ gsum f n k + f (bits n k)
      omega
/-- the cases of a pattern -/
def wgt (a b : Int) : Int := if b = 1 then a else 16 - a
def casesOf (a : Int) : List Int → Int
  | [] => 1
  | b :: p => wgt a b * casesOf a p
theorem casesOf_append (a : Int) (p q : List Int) : casesOf a (p ++ q) = casesOf a p * casesOf a q := by
  induction p with
  | nil => simp [casesOf]
  | cons b p ih => simp only [List.cons_append, casesOf, ih, Int.mul_assoc]
theorem casesOf_snoc {a : Int} {p : List Int} {k : Nat} (h : k < p.length) : casesOf a (p.take (k + 1)) = casesOf a (p.take k) * wgt a (p.getD k 0) := by
  rw [take_snoc h, casesOf_append]; simp [casesOf]
theorem wgt_bd {a : Int} (h0 : 0 ≤ a) (h1 : a ≤ 16) (b : Int) : 0 ≤ wgt a b ∧ wgt a b ≤ 16 := by unfold wgt; split <;> omega
theorem casesOf_bd {a : Int} (h0 : 0 ≤ a) (h1 : a ≤ 16) (p : List Int) : 0 ≤ casesOf a p ∧ casesOf a p ≤ p16 p.length := by
  induction p with
  | nil => simp [casesOf, p16]
  | cons b p ih =>
    have hw := wgt_bd h0 h1 b
    have h2 := Int.mul_nonneg hw.1 ih.1
    have h3 : wgt a b * casesOf a p ≤ 16 * p16 p.length := Int.mul_le_mul hw.2 ih.2 ih.1 (by decide)
    simp only [casesOf, List.length_cons, p16]; omega
/-- the cases of a pattern that has k detections -/
def at_ (a k : Int) (p : List Int) : Int := if lsum p = k then casesOf a p else 0
theorem at_nonneg {a : Int} (h0 : 0 ≤ a) (h1 : a ≤ 16) (k : Int) (p : List Int) : 0 ≤ at_ a k p := by
  unfold at_; split
  · exact (casesOf_bd h0 h1 p).1
  · exact Int.le_refl _
theorem lsum_map_mul (c : Int) (f : List Int → Int) (l : List (List Int)) : lsum (l.map (fun p => c * f p)) = c * lsum (l.map f) := by
  induction l with
  | nil => simp [lsum]
  | cons p l ih => simp only [List.map_cons, lsum, ih, Int.mul_add]
theorem at_zero (a k : Int) (p : List Int) : at_ a k (0 :: p) = (16 - a) * at_ a k p := by
  unfold at_
  simp only [lsum, Int.zero_add, casesOf, wgt]
  by_cases h : lsum p = k
  · rw [if_pos h, if_pos h]; rfl
  · rw [if_neg h, if_neg h]; simp
theorem at_one (a k : Int) (p : List Int) : at_ a k (1 :: p) = a * at_ a (k - 1) p := by
  unfold at_
  simp only [lsum, casesOf, wgt]
  by_cases h : lsum p = k - 1
  · rw [if_pos h, if_pos (by omega)]; rfl
  · rw [if_neg h, if_neg (by omega)]; simp
theorem sum_at (n : Nat) (a : Int) : ∀ k, lsum ((pats n).map (at_ a k)) = ex n a k := by
  induction n with
  | zero =>
    intro k
    show at_ a k [] + 0 = _
    have e : at_ a k [] = if k = 0 then 1 else 0 := by
      unfold at_
      by_cases h : k = 0
      · subst h; rfl
      · rw [if_neg h, if_neg (fun q => h (by simpa [lsum] using q.symm))]
    rw [e]; unfold ex; omega
  | succ n ih =>
    intro k
    unfold pats
    rw [List.map_append, lsum_append, List.map_map, List.map_map, ex_succ]
    have e0 : (at_ a k ∘ fun p => 0 :: p) = fun p => (16 - a) * at_ a k p := funext fun p => at_zero a k p
    have e1 : (at_ a k ∘ fun p => 1 :: p) = fun p => a * at_ a (k - 1) p := funext fun p => at_one a k p
    rw [e0, e1, lsum_map_mul, lsum_map_mul, ih, ih]
    omega
theorem at_bd {n : Nat} {a : Int} (h0 : 0 ≤ a) (h1 : a ≤ 16) (k : Int) {j : Nat} (h : j ≤ 2 ^ n) : 0 ≤ gsum (at_ a k) n j ∧ gsum (at_ a k) n j ≤ ex n a k := by
  have hf : ∀ x, 0 ≤ at_ a k (bits n x) := fun x => at_nonneg h0 h1 k _
  exact ⟨gsum_nonneg n hf j, by rw [← sum_at, ← gsum_all]; exact gsum_mono n hf h⟩
theorem lsum_01 {p : List Int} (h : ∀ b ∈ p, 0 ≤ b ∧ b ≤ 1) : 0 ≤ lsum p ∧ lsum p ≤ p.length := by
  induction p with
  | nil => simp [lsum]
  | cons b p ih =>
    have h1 := ih (fun x hx => h x (List.mem_cons_of_mem _ hx))
    have h2 := h b (List.mem_cons_self ..)
    simp only [lsum, List.length_cons]; omega
/-- what the tails' list holds after j patterns -/
def cnts (n : Nat) (a : Int) (j : Nat) : List Int := (List.range (n + 2)).map (fun m : Nat => gsum (at_ a m) n j)
theorem cnts_len (n : Nat) (a : Int) (j : Nat) : (cnts n a j).length = n + 2 := by simp [cnts]
theorem cnts_at {n : Nat} {a : Int} {j m : Nat} (h : m < n + 2) : (cnts n a j).getD m 0 = gsum (at_ a m) n j := by simp [cnts, h]
theorem cnts_zero (n : Nat) (a : Int) : cnts n a 0 = List.replicate (n + 2) 0 := by
  apply List.ext_getElem (by simp [cnts])
  intro i h1 h2
  simp [cnts, gsum]
theorem cnts_up (n : Nat) (a : Int) (j : Nat) {s : Nat} (hs : lsum (bits n j) = (s : Int)) (h : s < n + 2) : (cnts n a j).set s (gsum (at_ a s) n j + casesOf a (bits n j)) = cnts n a (j + 1) := by
  apply List.ext_getElem (by simp [cnts])
  intro i h1 h2
  rw [List.getElem_set]
  have hi : i < n + 2 := by simpa [cnts] using h2
  have e : (cnts n a (j + 1))[i] = gsum (at_ a i) n j + at_ a i (bits n j) := by simp [cnts, gsum]
  rw [e]
  by_cases hsi : s = i
  · subst hsi
    rw [if_pos rfl]; unfold at_; rw [if_pos hs]
  · rw [if_neg hsi]
    have : at_ a i (bits n j) = 0 := by unfold at_; rw [if_neg (by rw [hs]; omega)]
    rw [this]; simp [cnts]
theorem cnts_all (n : Nat) (a : Int) : cnts n a (2 ^ n) = (List.range (n + 2)).map (fun m : Nat => ex n a m) := by
  unfold cnts
  apply List.map_congr_left
  intro m _
  rw [gsum_all, sum_at]
/-- the list while the tails are added up, from above: those from m on are tails -/
def tls (n : Nat) (a : Int) (m : Nat) : List Int := (List.range (n + 2)).map (fun i : Nat => if i < m then ex n a i else tail n a i)
theorem tls_len (n : Nat) (a : Int) (m : Nat) : (tls n a m).length = n + 2 := by simp [tls]
theorem tls_at {n : Nat} {a : Int} {m i : Nat} (h : i < n + 2) : (tls n a m).getD i 0 = if i < m then ex n a i else tail n a i := by simp [tls, h]
theorem tls_start (n : Nat) (a : Int) : (List.range (n + 2)).map (fun m : Nat => ex n a m) = tls n a (n + 1) := by
  unfold tls
  apply List.map_congr_left
  intro i hi
  have := List.mem_range.1 hi
  by_cases h : i < n + 1
  · rw [if_pos h]
  · rw [if_neg h, ex_big n a _ (by omega), tail_end n a i (by omega)]
theorem tls_step {n : Nat} {a : Int} {m : Nat} (h : m < n + 1) : (tls n a (m + 1)).set m (ex n a m + tail n a (m + 1)) = tls n a m := by
  apply List.ext_getElem (by simp [tls])
  intro i h1 h2
  rw [List.getElem_set]
  by_cases hi : m = i
  · subst hi
    rw [if_pos rfl]; simp [tls, ← tail_step]
  · rw [if_neg hi]
    simp only [tls, List.getElem_map, List.getElem_range]
    by_cases h3 : i < m
    · rw [if_pos h3, if_pos (by omega)]
    · rw [if_neg h3, if_neg (by omega)]
theorem tls_zero (n : Nat) (a : Int) : tls n a 0 = (List.range (n + 2)).map (fun m : Nat => tail n a m) := by
  unfold tls
  apply List.map_congr_left
  intro i _
  rw [if_neg (by omega)]
/-- the counts of the confirmed patterns, by the recursion of the reference -/
theorem pats_split (f : List Int → Int) (pre : List Int) (r : Nat) : lsum ((pats (r + 1)).map (fun q => f (pre ++ q))) = lsum ((pats r).map (fun q => f ((pre ++ [0]) ++ q))) + lsum ((pats r).map (fun q => f ((pre ++ [1]) ++ q))) := by
  rw [show pats (r + 1) = (pats r).map (fun p => 0 :: p) ++ (pats r).map (fun p => 1 :: p) from rfl]
  rw [List.map_append, lsum_append, List.map_map, List.map_map]
  congr 1
  · congr 1
    apply List.map_congr_left
    intro q _
    simp
  · congr 1
    apply List.map_congr_left
    intro q _
    simp

/-- a sum over all patterns behind a beginning -/
def patSum (f : List Int → Int) (pre : List Int) (r : Nat) : Int := lsum ((pats r).map (fun q => f (pre ++ q)))
theorem patSum_zero (f : List Int → Int) (pre : List Int) : patSum f pre 0 = f pre := by simp [patSum, pats, lsum]
theorem patSum_succ (f : List Int → Int) (pre : List Int) (r : Nat) : patSum f pre (r + 1) = patSum f (pre ++ [0]) r + patSum f (pre ++ [1]) r := pats_split f pre r
theorem patSum_bd {f : List Int → Int} {M : Int} (pre : List Int) (r : Nat) (h0 : ∀ p, 0 ≤ f p) (h1 : ∀ p : List Int, p.length = pre.length + r → f p ≤ M) : 0 ≤ patSum f pre r ∧ patSum f pre r ≤ (2 : Int) ^ r * M := by
  induction r generalizing pre with
  | zero => rw [patSum_zero]; have := h1 pre rfl; have := h0 pre; omega
  | succ r ih =>
    rw [patSum_succ]
    have a := ih (pre ++ [0]) (fun p hp => h1 p (by simp at hp; omega))
    have b := ih (pre ++ [1]) (fun p hp => h1 p (by simp at hp; omega))
    have e : (2 : Int) ^ (r + 1) * M = (2 : Int) ^ r * M + (2 : Int) ^ r * M := by rw [Int.pow_succ]; grind
    omega
theorem pow2_le {r : Nat} (h : r ≤ 12) : (1 : Int) ≤ (2 : Int) ^ r ∧ (2 : Int) ^ r ≤ 4096 := by
  match r, h with
  | 0, _ | 1, _ | 2, _ | 3, _ | 4, _ | 5, _ | 6, _ | 7, _ | 8, _ | 9, _ | 10, _ | 11, _ | 12, _ => decide
/-- the cases of a confirmed pattern (a < 0: each pattern once) -/
def cw (a : Int) (p : List Int) : Int := if a < 0 then 1 else casesOf a p
def cf (a m : Int) (k : Nat) (p : List Int) : Int := if conf p m k < 0 then 0 else cw a p
theorem p16_mono {i j : Nat} (h : i ≤ j) : p16 i ≤ p16 j := by
  induction j with
  | zero => have : i = 0 := by omega
            subst this; exact Int.le_refl _
  | succ j ih =>
    rcases Nat.lt_or_ge j i with hlt | hge
    · have : i = j + 1 := by omega
      subst this; exact Int.le_refl _
    · have h1 := ih hge
      have h2 := p16_pos j
      show p16 i ≤ 16 * p16 j
      omega
theorem cw_bd {a : Int} (h1 : a ≤ 16) (p : List Int) : 0 ≤ cw a p ∧ cw a p ≤ p16 p.length := by
  unfold cw; split
  · have := p16_pos p.length; omega
  · exact casesOf_bd (by omega) h1 p
theorem cf_bd {a m : Int} {k : Nat} (h1 : a ≤ 16) (p : List Int) : 0 ≤ cf a m k p ∧ cf a m k p ≤ p16 p.length := by
  have := cw_bd h1 p
  unfold cf; split <;> omega
/-- confirmed cases of n scans -/
def cfAll (n : Nat) (a m : Int) (k : Nat) : Int := lsum ((pats n).map (cf a m k))
theorem cfAll_sum (n : Nat) (a m : Int) (k : Nat) : patSum (cf a m k) [] n = cfAll n a m k := rfl
theorem cfAll_g (n : Nat) (a m : Int) (k : Nat) : gsum (cf a m k) n (2 ^ n) = cfAll n a m k := gsum_all _ _
theorem cfAll_bd {n : Nat} {a m : Int} {k : Nat} (hn : n ≤ 12) (h1 : a ≤ 16) : 0 ≤ cfAll n a m k ∧ cfAll n a m k ≤ 1152921504606846976 := by
  rw [← cfAll_sum]
  have h := patSum_bd (f := cf a m k) (M := 281474976710656) [] n (fun p => (cf_bd h1 p).1) (fun p hp => Int.le_trans (cf_bd h1 p).2 (p16_le _ (by simp at hp; omega)))
  have := pow2_le hn
  refine ⟨h.1, Int.le_trans h.2 ?_⟩
  have := Int.mul_le_mul_of_nonneg_right this.2 (show (0 : Int) ≤ 281474976710656 by decide)
  omega
theorem cf_g_bd {n : Nat} {a m : Int} {k : Nat} (hn : n ≤ 12) (h1 : a ≤ 16) {j : Nat} (hj : j ≤ 2 ^ n) : 0 ≤ gsum (cf a m k) n j ∧ gsum (cf a m k) n j ≤ 1152921504606846976 := by
  have hf : ∀ x, 0 ≤ cf a m k (bits n x) := fun x => (cf_bd h1 _).1
  refine ⟨gsum_nonneg n hf j, ?_⟩
  have := gsum_mono n hf hj
  rw [cfAll_g] at this
  have := (cfAll_bd (m := m) (k := k) hn h1).2
  omega
theorem lsum_map_congr {f g : List Int → Int} {l : List (List Int)} (h : ∀ p ∈ l, f p = g p) : lsum (l.map f) = lsum (l.map g) := by
  rw [List.map_congr_left h]
theorem cases8 (p : List Int) : casesOf 8 p = 8 ^ p.length := by
  induction p with
  | nil => rfl
  | cons b p ih =>
    have : wgt 8 b = 8 := by unfold wgt; split <;> rfl
    simp only [casesOf, this, ih, List.length_cons, Int.pow_succ]; omega
/-- with equal chances cases are counted by patterns -/
theorem cf_even (n : Nat) (m : Int) (k : Nat) : cfAll n 8 m k = 8 ^ n * cfAll n (-1) m k := by
  unfold cfAll
  rw [← lsum_map_mul]
  apply lsum_map_congr
  intro p hp
  unfold cf cw
  split
  · simp
  · rw [if_neg (by decide), if_pos (by decide), cases8, pats_len hp]; omega
theorem sub_le {xs : List Int} (h : ∀ b ∈ xs, 0 ≤ b) (i j : Nat) : lsum ((xs.take i).drop j) ≤ lsum xs := by
  have nn : ∀ l : List Int, (∀ b ∈ l, 0 ≤ b) → 0 ≤ lsum l := by
    intro l; induction l with
    | nil => intro _; exact Int.le_refl _
    | cons b l ih => intro hl; have := hl b (List.mem_cons_self ..); have := ih (fun x hx => hl x (List.mem_cons_of_mem _ hx)); simp only [lsum]; omega
  have e1 : lsum (xs.take i) + lsum (xs.drop i) = lsum xs := by rw [← lsum_append, List.take_append_drop]
  have e2 : lsum ((xs.take i).take j) + lsum ((xs.take i).drop j) = lsum (xs.take i) := by rw [← lsum_append, List.take_append_drop]
  have n1 := nn (xs.drop i) (fun b hb => h b (List.mem_of_mem_drop hb))
  have n2 := nn ((xs.take i).take j) (fun b hb => h b (List.mem_of_mem_take (List.mem_of_mem_take hb)))
  omega
theorem leastN_some {p : Nat → Bool} {f s k : Nat} (h : leastN p f s = some k) : s ≤ k ∧ k < s + f ∧ p k = true ∧ ∀ i, s ≤ i → i < k → p i = false := by
  induction f generalizing s with
  | zero => cases h
  | succ f ih =>
    unfold leastN at h
    by_cases e : p s = true
    · rw [if_pos e] at h
      cases h
      exact ⟨Nat.le_refl _, by omega, e, fun i h1 h2 => absurd h1 (by omega)⟩
    · rw [if_neg e] at h
      obtain ⟨h1, h2, h3, h4⟩ := ih h
      refine ⟨by omega, by omega, h3, fun i hi hk => ?_⟩
      rcases Nat.lt_or_ge s i with q | q
      · exact h4 i q hk
      · have : i = s := by omega
        subst this; simpa using e
theorem leastN_no {p : Nat → Bool} {f s : Nat} (h : leastN p f s = none) : ∀ i, s ≤ i → i < s + f → p i = false := by
  induction f generalizing s with
  | zero => intro i h1 h2; omega
  | succ f ih =>
    unfold leastN at h
    by_cases e : p s = true
    · rw [if_pos e] at h; cases h
    · rw [if_neg e] at h
      intro i h1 h2
      rcases Nat.lt_or_ge s i with q | q
      · exact ih h i q (by omega)
      · have : i = s := by omega
        subst this; simpa using e
/-- one detection of k confirms at once -/
theorem conf_one {p : List Int} {k : Nat} (hk : 1 ≤ k) (h : ∀ b ∈ p, 0 ≤ b ∧ b ≤ 1) : conf p 1 k < 0 ↔ lsum p = 0 := by
  unfold conf
  cases e : leastN (hitAt p 1 k) p.length 0 with
  | some i =>
    obtain ⟨_, h2, h3, _⟩ := leastN_some e
    unfold hitAt at h3
    have h4 := of_decide_eq_true h3
    have := sub_le (xs := p) (fun b hb => (h b hb).1) (i + 1) (i + 1 - k)
    constructor
    · intro q; exact absurd q (by simp only []; omega)
    · intro q; omega
  | none =>
    have h1 := leastN_no e
    refine ⟨fun _ => ?_, fun _ => by decide⟩
    have key : ∀ i, i ≤ p.length → lsum (p.take i) = 0 := by
      intro i
      induction i with
      | zero => intro _; simp [lsum]
      | succ i ih =>
        intro hi
        have h2 := h1 i (Nat.zero_le _) (by omega)
        unfold hitAt at h2
        have h3 := of_decide_eq_false h2
        rw [lsum_snoc (by omega), ih (by omega)]
        have hb := h (p.getD i 0) (List.mem_of_mem_take (i := i + 1) (by rw [take_snoc (by omega)]; simp))
        -- the last one is in the window
        have e1 : lsum ((p.take (i + 1)).drop (i + 1 - k)) = lsum ((p.take i).drop (i + 1 - k)) + p.getD i 0 := by
          rw [take_snoc (by omega), List.drop_append_of_le_length (by simp; omega), lsum_append]; simp [lsum]
        have e2 : 0 ≤ lsum ((p.take i).drop (i + 1 - k)) := by
          have : ∀ l : List Int, (∀ b ∈ l, 0 ≤ b) → 0 ≤ lsum l := by
            intro l; induction l with
            | nil => intro _; exact Int.le_refl _
            | cons b l ih => intro hl; have := hl b (List.mem_cons_self ..); have := ih (fun x hx => hl x (List.mem_cons_of_mem _ hx)); simp only [lsum]; omega
          exact this _ (fun b hb => (h b (List.mem_of_mem_take (List.mem_of_mem_drop hb))).1)
        omega
    have := key p.length (Nat.le_refl _)
    rwa [List.take_of_length_le (Nat.le_refl _)] at this
theorem casesOf_all (n : Nat) (a : Int) : lsum ((pats n).map (casesOf a)) = p16 n := by
  induction n with
  | zero => rfl
  | succ n ih =>
    unfold pats p16
    rw [List.map_append, lsum_append, List.map_map, List.map_map]
    have e0 : (casesOf a ∘ fun p => 0 :: p) = fun p => (16 - a) * casesOf a p := funext fun p => by simp [casesOf, wgt]
    have e1 : (casesOf a ∘ fun p => 1 :: p) = fun p => a * casesOf a p := funext fun p => by simp [casesOf, wgt]
    rw [e0, e1, lsum_map_mul, lsum_map_mul, ih]; grind
theorem lsum_map_sub (f g : List Int → Int) (l : List (List Int)) : lsum (l.map (fun p => f p - g p)) = lsum (l.map f) - lsum (l.map g) := by
  induction l with
  | nil => rfl
  | cons p l ih => simp only [List.map_cons, lsum, ih]; omega
theorem cf_single {n : Nat} {a : Int} {k : Nat} (h0 : 0 ≤ a) (hk : 1 ≤ k) : cfAll n a 1 k = tail n a 1 := by
  have e : cfAll n a 1 k = lsum ((pats n).map (fun p => casesOf a p - at_ a 0 p)) := by
    apply lsum_map_congr
    intro p hp
    have h := conf_one hk (pats_01 hp)
    unfold cf cw at_
    rw [if_neg (show ¬ a < 0 by omega)]
    by_cases q : lsum p = 0
    · rw [if_pos (h.2 q), if_pos q]; omega
    · rw [if_neg (fun r => q (h.1 r)), if_neg q]; omega
  rw [e, lsum_map_sub, casesOf_all, sum_at]
  show _ = p16 n - (0 + ex n a ((0 : Nat) : Int))
  simp
/-- a confirmed pattern stays confirmed -/
theorem conf_prefix {xs : List Int} {m : Int} {k i : Nat} (h : conf xs m k = i) (hi : i < xs.length) (y : Int) : conf (xs.take (i + 1) ++ [y]) m k = i := by
  unfold conf at h
  cases e : leastN (hitAt xs m k) xs.length 0 with
  | none =>
    rw [e] at h
    have h2 : (-1 : Int) = i := h
    omega
  | some j =>
    rw [e] at h
    have hj : j = i := by
      have h2 : (j : Int) = i := h
      omega
    subst hj
    obtain ⟨_, h2, h3, h4⟩ := leastN_some e
    have same : ∀ t, t ≤ j → hitAt (xs.take (j + 1) ++ [y]) m k t = hitAt xs m k t := by
      intro t ht
      unfold hitAt
      rw [List.take_append_of_le_length (by simp; omega), List.take_take, Nat.min_eq_left (by omega)]
    exact conf_hit (by simp; omega) (fun t ht => by rw [same t (by omega)]; exact h4 t (Nat.zero_le _) ht) (by rw [same j (Nat.le_refl _)]; exact h3)
theorem tail_rec (n : Nat) (a : Int) (m : Nat) : tail (n + 1) a (m + 1) = a * tail n a m + (16 - a) * tail n a (m + 1) := by
  have e : p16 (n + 1) = 16 * p16 n := rfl
  unfold tail
  rw [exSum_succ, e]; grind
theorem tail_mono_m (n : Nat) {a : Int} (h0 : 0 ≤ a) (h1 : a ≤ 16) {i j : Nat} (h : i ≤ j) : tail n a j ≤ tail n a i := by
  have := exSum_le n a h0 h1 i j h; unfold tail; omega
theorem tail_zero (n : Nat) (a : Int) : tail n a 0 = p16 n := by unfold tail exSum; omega
/-- tails grow with the probability -/
theorem tail_mono_a (n : Nat) {a : Int} (h0 : 0 ≤ a) (h1 : a + 1 ≤ 16) (m : Nat) : tail n a m ≤ tail n (a + 1) m := by
  induction n generalizing m with
  | zero =>
    cases m with
    | zero => rw [tail_zero, tail_zero]; exact Int.le_refl _
    | succ m => rw [tail_end 0 _ _ (by omega), tail_end 0 _ _ (by omega)]; exact Int.le_refl _
  | succ n ih =>
    cases m with
    | zero => rw [tail_zero, tail_zero]; exact Int.le_refl _
    | succ m =>
      rw [tail_rec, tail_rec]
      have x1 := ih m; have x2 := ih (m + 1)
      have x3 := tail_mono_m n (a := a + 1) (by omega) (by omega) (Nat.le_succ m)
      have m1 := Int.mul_le_mul_of_nonneg_left x1 h0
      have m2 := Int.mul_le_mul_of_nonneg_left x2 (show 0 ≤ 16 - a by omega)
      generalize tail n (a + 1) m = T1 at *
      generalize tail n (a + 1) (m + 1) = T2 at *
      have e : (a + 1) * T1 + (16 - (a + 1)) * T2 = a * T1 + (16 - a) * T2 + (T1 - T2) := by grind
      rw [e]
      omega
end Go.Proofs.Ytoaldcibmcmfdaa
