/- plain functions: peaks over a threshold -/
import Derived.Test.YtgfhmihnnjcagaaW5
set_option linter.unusedVariables false
set_option linter.unusedSimpArgs false
namespace Go.Proofs.Ytgfhmihnnjcagaa
open Go.RowKit

/-- near one of the chosen ones -/
def pNear (cs : List Int) (g i : Int) : Bool := cs.any (fun c => decide (iabs (c - i) ≤ g))
/-- the trace without what is near the chosen ones -/
def pMask (xs cs : List Int) (g : Int) : List Int := (List.range xs.length).map (fun i : Nat => if pNear cs g i then 0 else xs.getD i 0)
theorem pMask_len (xs cs : List Int) (g : Int) : (pMask xs cs g).length = xs.length := by simp [pMask]
theorem pMask_at {xs cs : List Int} {g : Int} {i : Nat} (h : i < xs.length) : (pMask xs cs g).getD i 0 = if pNear cs g i then 0 else xs.getD i 0 := by simp [pMask, h]
theorem pMask_nil (xs : List Int) (g : Int) : pMask xs [] g = xs := by
  apply List.ext_getElem
  · simp [pMask]
  · intro i h1 h2; simp [pMask, pNear, h2]
/-- the next one, looked for among the first i -/
def pNext (xs cs : List Int) (t g : Int) : Nat → Int
  | 0 => -1
  | i + 1 => if t ≤ iabs (xs.getD i 0) ∧ pNear cs g i = false ∧ (pNext xs cs t g i < 0 ∨ iabs (xs.getD (pNext xs cs t g i).toNat 0) < iabs (xs.getD i 0)) then (i : Int) else pNext xs cs t g i
theorem iabs_zero : iabs 0 = 0 := rfl
theorem pNext_peak {xs cs : List Int} {t g : Int} (ht : 1 ≤ t) {i : Nat} (hi : i ≤ xs.length) :
    (pNext xs cs t g i = -1 ∧ ∀ j, j < i → iabs ((pMask xs cs g).getD j 0) < t) ∨
    (pNext xs cs t g i = (peakTo (pMask xs cs g) i : Nat) ∧ peakTo (pMask xs cs g) i < i ∧ t ≤ iabs ((pMask xs cs g).getD (peakTo (pMask xs cs g) i) 0) ∧ pNear cs g (peakTo (pMask xs cs g) i : Nat) = false) := by
  induction i with
  | zero => exact .inl ⟨rfl, fun j hj => absurd hj (Nat.not_lt_zero _)⟩
  | succ i ih =>
    have hx := pMask_at (cs := cs) (g := g) (show i < xs.length by omega)
    rcases ih (by omega) with ⟨e, hs⟩ | ⟨e, hl, hge, hn⟩
    · simp only [pNext, e]
      by_cases hc : t ≤ iabs (xs.getD i 0) ∧ pNear cs g i = false
      · rw [if_pos ⟨hc.1, hc.2, .inl (by decide)⟩]
        rw [hc.2, if_neg (by decide)] at hx
        have hp : peakTo (pMask xs cs g) (i + 1) = i := by
          simp only [peakTo]
          split
          · rfl
          · rename_i hnl
            by_cases h0 : i = 0
            · subst h0; rfl
            · have h1 := hs _ (peakTo_lt (pMask xs cs g) i (by omega))
              rw [hx] at hnl
              omega
        right
        rw [hp, hx]
        exact ⟨rfl, by omega, hc.1, hc.2⟩
      · rw [if_neg (fun h => hc ⟨h.1, h.2.1⟩)]
        refine .inl ⟨rfl, fun j hj => ?_⟩
        rcases Nat.lt_or_ge j i with h | h
        · exact hs j h
        · obtain rfl : j = i := by omega
          rw [hx]
          by_cases hb : pNear cs g j = true
          · rw [if_pos hb, iabs_zero]; omega
          · rw [if_neg hb]
            have hb2 : pNear cs g j = false := by simpa using hb
            rcases Int.lt_or_le (iabs (xs.getD j 0)) t with h2 | h2
            · exact h2
            · exact absurd ⟨h2, hb2⟩ hc
    · have hy := pMask_at (cs := cs) (g := g) (show peakTo (pMask xs cs g) i < xs.length by omega)
      rw [hn, if_neg (by decide)] at hy
      simp only [pNext, e, Int.toNat_natCast]
      right
      by_cases hb : pNear cs g i = true
      · rw [if_neg (fun h => by rw [hb] at h; exact absurd h.2.1 (by decide))]
        have hp : peakTo (pMask xs cs g) (i + 1) = peakTo (pMask xs cs g) i := by
          simp only [peakTo]
          rw [hx, if_pos hb, iabs_zero]
          rw [if_neg (by omega)]
        rw [hp]
        exact ⟨rfl, by omega, hge, hn⟩
      · have hb2 : pNear cs g i = false := by simpa using hb
        rw [hb2, if_neg (by decide)] at hx
        by_cases hlt : iabs (xs.getD (peakTo (pMask xs cs g) i) 0) < iabs (xs.getD i 0)
        · rw [hy] at hge
          rw [if_pos ⟨by omega, hb2, .inr hlt⟩]
          have hp : peakTo (pMask xs cs g) (i + 1) = i := by
            simp only [peakTo]
            rw [hx, hy, if_pos hlt]
          rw [hp, hx]
          exact ⟨rfl, by omega, by omega, hb2⟩
        · rw [if_neg (fun h => by rcases h.2.2 with h3 | h3 <;> omega)]
          have hp : peakTo (pMask xs cs g) (i + 1) = peakTo (pMask xs cs g) i := by
            simp only [peakTo]
            rw [hx, hy, if_neg hlt]
          rw [hp]
          exact ⟨rfl, by omega, hge, hn⟩
/-- the chosen ones after k rounds -/
def pTo (xs : List Int) (t g : Int) : Nat → List Int
  | 0 => []
  | k + 1 => if pNext xs (pTo xs t g k) t g xs.length < 0 then pTo xs t g k else pTo xs t g k ++ [pNext xs (pTo xs t g k) t g xs.length]
def pOpen (xs cs : List Int) (g : Int) : Nat := ((List.range xs.length).countP (fun i : Nat => !pNear cs g i))
theorem countP_lt {p q : Nat → Bool} {l : List Nat} (h : ∀ i, q i = true → p i = true) {a : Nat} (ha : a ∈ l) (hp : p a = true) (hq : q a = false) : l.countP q < l.countP p := by
  induction l with
  | nil => cases ha
  | cons b l ih =>
    have hle : l.countP q ≤ l.countP p := List.countP_mono_left (fun x _ => h x)
    rcases List.mem_cons.1 ha with rfl | ha
    · rw [List.countP_cons_of_neg (by simp [hq]), List.countP_cons_of_pos hp]; omega
    · have := ih ha
      by_cases hb : q b = true
      · rw [List.countP_cons_of_pos hb, List.countP_cons_of_pos (h b hb)]; omega
      · rw [List.countP_cons_of_neg hb]
        have : l.countP p ≤ (b :: l).countP p := by rw [List.countP_cons]; omega
        omega
theorem pNear_snoc (cs : List Int) (g i c : Int) : pNear (cs ++ [c]) g i = (pNear cs g i || decide (iabs (c - i) ≤ g)) := by simp [pNear]
theorem pOpen_lt {xs cs : List Int} {g : Int} {k : Nat} (hg : 0 ≤ g) (hk : k < xs.length) (hn : pNear cs g k = false) : pOpen xs (cs ++ [(k : Int)]) g < pOpen xs cs g := by
  refine countP_lt (a := k) (fun i hi => ?_) (List.mem_range.2 hk) (by simp [hn]) ?_
  · rw [pNear_snoc] at hi
    cases h : pNear cs g i
    · rfl
    · rw [h] at hi; simp at hi
  · rw [pNear_snoc]
    have e : iabs ((k : Int) - k) ≤ g := by rw [Int.sub_self, iabs_zero]; exact hg
    rw [decide_eq_true e]; simp
/-- a round that finds something -/
theorem pTo_step {xs : List Int} {t g : Int} {k : Nat} (h : 0 ≤ pNext xs (pTo xs t g k) t g xs.length) : pTo xs t g (k + 1) = pTo xs t g k ++ [pNext xs (pTo xs t g k) t g xs.length] := by
  simp only [pTo]; rw [if_neg (by omega)]
theorem pTo_stay {xs : List Int} {t g : Int} {k m : Nat} (h : pNext xs (pTo xs t g k) t g xs.length < 0) (hm : k ≤ m) : pTo xs t g m = pTo xs t g k := by
  induction m with
  | zero => rw [show k = 0 by omega]
  | succ m ih =>
    by_cases h0 : k = m + 1
    · rw [h0]
    · have ih := ih (by omega)
      simp only [pTo]
      rw [ih, if_pos h]
/-- how many rounds there can be -/
theorem pTo_room {xs : List Int} {t g : Int} (ht : 1 ≤ t) (hg : 0 ≤ g) {k : Nat} (h : ∀ j, j < k → 0 ≤ pNext xs (pTo xs t g j) t g xs.length) : k + pOpen xs (pTo xs t g k) g ≤ xs.length := by
  induction k with
  | zero =>
    have := List.countP_le_length (p := fun i : Nat => !pNear [] g i) (l := List.range xs.length)
    rw [List.length_range] at this
    simp only [pTo, pOpen]; omega
  | succ k ih =>
    have ih := ih (fun j hj => h j (by omega))
    have hk := h k (by omega)
    rw [pTo_step hk]
    rcases pNext_peak (xs := xs) (cs := pTo xs t g k) (g := g) ht (Nat.le_refl _) with ⟨e, _⟩ | ⟨e, hl, _, hn⟩
    · omega
    · rw [e] at hk ⊢
      have := pOpen_lt hg hl hn
      omega
def pFin (xs : List Int) (t g : Int) : List Int := pTo xs t g xs.length
/-- the sum up of one round of the program -/
theorem pStop {xs cs : List Int} {t g : Int} (ht : 1 ≤ t) (h : iabs ((pMask xs cs g).getD (peakIx (pMask xs cs g)) 0) < t) : pNext xs cs t g xs.length = -1 := by
  rcases pNext_peak (xs := xs) (cs := cs) (g := g) ht (Nat.le_refl _) with ⟨e, _⟩ | ⟨_, _, h2, _⟩
  · exact e
  · unfold peakIx at h; rw [pMask_len] at h; omega
theorem pGo {xs cs : List Int} {t g : Int} (ht : 1 ≤ t) (h0 : 0 < xs.length) (h : t ≤ iabs ((pMask xs cs g).getD (peakIx (pMask xs cs g)) 0)) : pNext xs cs t g xs.length = peakIx (pMask xs cs g) ∧ peakIx (pMask xs cs g) < xs.length := by
  have hp : peakIx (pMask xs cs g) < xs.length := by
    have := peakTo_lt (pMask xs cs g) (pMask xs cs g).length (by rw [pMask_len]; exact h0)
    rw [pMask_len] at this; unfold peakIx; rw [pMask_len]; exact this
  rcases pNext_peak (xs := xs) (cs := cs) (g := g) ht (Nat.le_refl _) with ⟨_, e⟩ | ⟨e, _⟩
  · have := e _ hp; omega
  · exact ⟨by rw [e]; unfold peakIx; rw [pMask_len], hp⟩
theorem pTo_len {xs : List Int} {t g : Int} {k : Nat} (h : ∀ j, j < k → 0 ≤ pNext xs (pTo xs t g j) t g xs.length) : (pTo xs t g k).length = k := by
  induction k with
  | zero => rfl
  | succ k ih =>
    rw [pTo_step (h k (by omega)), List.length_append, ih (fun j hj => h j (by omega))]; rfl
theorem pTo_fin {xs : List Int} {t g : Int} (ht : 1 ≤ t) (hg : 0 ≤ g) {k : Nat} (h : ∀ j, j < k → 0 ≤ pNext xs (pTo xs t g j) t g xs.length) (he : pNext xs (pTo xs t g k) t g xs.length < 0) : pTo xs t g k = pFin xs t g := by
  have := pTo_room ht hg h
  exact (pTo_stay he (by omega)).symm
/-- masked anew: zeros from lo to hi -/
def pWipe (ys : List Int) (lo : Nat) : Nat → List Int
  | 0 => ys
  | j + 1 => (pWipe ys lo j).set (lo + j) 0
theorem pWipe_len (ys : List Int) (lo j : Nat) : (pWipe ys lo j).length = ys.length := by
  induction j with
  | zero => rfl
  | succ j ih => simp only [pWipe, List.length_set, ih]
theorem pWipe_at {ys : List Int} {lo j i : Nat} : (pWipe ys lo j).getD i 0 = if lo ≤ i ∧ i < lo + j then 0 else ys.getD i 0 := by
  induction j with
  | zero => rw [if_neg (by omega)]; rfl
  | succ j ih =>
    simp only [pWipe]
    by_cases h : i = lo + j
    · subst h
      rw [if_pos (by omega)]
      by_cases hl : lo + j < (pWipe ys lo j).length
      · simp [List.getD_eq_getElem?_getD, hl]
      · rw [List.getD_eq_getElem?_getD, List.getElem?_eq_none (by rw [List.length_set]; omega)]; rfl
    · have e : ((pWipe ys lo j).set (lo + j) 0).getD i 0 = (pWipe ys lo j).getD i 0 := by
        simp only [List.getD_eq_getElem?_getD, List.getElem?_set_ne (Ne.symm h)]
      rw [e, ih]
      by_cases h2 : lo ≤ i ∧ i < lo + j
      · rw [if_pos h2, if_pos (by omega)]
      · rw [if_neg h2, if_neg (by omega)]
theorem pWipe_mask {xs cs : List Int} {g : Int} {k lo m : Nat} (hlo : (lo : Int) = max ((k : Int) - g) 0) (hm : (lo : Int) + m = max (min ((k : Int) + g) ((xs.length : Int) - 1) + 1) lo) :
    pWipe (pMask xs cs g) lo m = pMask xs (cs ++ [(k : Int)]) g := by
  apply List.ext_getElem?
  intro i
  by_cases hi : i < xs.length
  · have h1 : (pWipe (pMask xs cs g) lo m)[i]? = some ((pWipe (pMask xs cs g) lo m).getD i 0) := by
      simp [pWipe_len, pMask_len, hi]
    have h2 : (pMask xs (cs ++ [(k : Int)]) g)[i]? = some ((pMask xs (cs ++ [(k : Int)]) g).getD i 0) := by
      simp [pMask_len, hi]
    rw [h1, h2, pWipe_at, pMask_at hi, pMask_at hi, pNear_snoc]
    by_cases hw : lo ≤ i ∧ i < lo + m
    · rw [if_pos hw]
      have : iabs ((k : Int) - i) ≤ g := by unfold iabs; omega
      simp [this]
    · rw [if_neg hw]
      have : ¬ iabs ((k : Int) - i) ≤ g := by unfold iabs; omega
      simp [this]
  · rw [List.getElem?_eq_none (by rw [pWipe_len, pMask_len]; omega), List.getElem?_eq_none (by rw [pMask_len]; omega)]
/-- a list in ascending order -/
def srt (xs : List Int) : List Int := xs.mergeSort fun x y => decide (x ≤ y)
theorem srt_len (xs : List Int) : (srt xs).length = xs.length := List.length_mergeSort _
theorem srt_of {xs ys : List Int} (hp : ys.Perm xs) (hs : ys.Pairwise (· ≤ ·)) : ys = srt xs := by
  have tr : ∀ a b c : Int, decide (a ≤ b) = true → decide (b ≤ c) = true → decide (a ≤ c) = true := fun a b c h1 h2 => by simp only [decide_eq_true_eq] at *; omega
  have to : ∀ a b : Int, (decide (a ≤ b) || decide (b ≤ a)) = true := fun a b => by simp only [Bool.or_eq_true, decide_eq_true_eq]; omega
  refine List.Perm.eq_of_pairwise (le := fun a b => decide (a ≤ b) = true) (fun a b _ _ h1 h2 => ?_) (hs.imp fun {a b} h => by simpa using h) (List.pairwise_mergeSort tr to xs) (hp.trans (List.mergeSort_perm xs _).symm)
  simp only [decide_eq_true_eq] at h1 h2; omega
theorem srt_sorted (xs : List Int) : (srt xs).Pairwise (· ≤ ·) := by
  have tr : ∀ a b c : Int, decide (a ≤ b) = true → decide (b ≤ c) = true → decide (a ≤ c) = true := fun a b c h1 h2 => by simp only [decide_eq_true_eq] at *; omega
  have to : ∀ a b : Int, (decide (a ≤ b) || decide (b ≤ a)) = true := fun a b => by simp only [Bool.or_eq_true, decide_eq_true_eq]; omega
  exact (List.pairwise_mergeSort tr to xs).imp fun {a b} h => by simpa using h
theorem srt_perm (xs : List Int) : (srt xs).Perm xs := List.mergeSort_perm xs _
/-- one number put in its place -/
theorem srt_ins {xs : List Int} {x : Int} {a : Nat} (ha : a ≤ xs.length) (h1 : ∀ i, i < a → (srt xs).getD i 0 ≤ x) (h2 : ∀ i, a ≤ i → i < xs.length → x < (srt xs).getD i 0) :
    (srt xs).take a ++ (x :: (srt xs).drop a) = srt (xs ++ [x]) := by
  have hl := srt_len xs
  have hs := srt_sorted xs
  have at1 : ∀ y ∈ (srt xs).take a, y ≤ x := fun y hy => by
    obtain ⟨i, hi, rfl⟩ := List.getElem_of_mem hy
    rw [List.length_take] at hi
    have := h1 i (by omega)
    rw [List.getElem_take]
    have e : (srt xs).getD i 0 = (srt xs)[i]'(by omega) := by simp [show i < (srt xs).length by omega]
    omega
  have at2 : ∀ y ∈ (srt xs).drop a, x ≤ y := fun y hy => by
    obtain ⟨i, hi, rfl⟩ := List.getElem_of_mem hy
    rw [List.length_drop] at hi
    have := h2 (a + i) (by omega) (by omega)
    rw [List.getElem_drop]
    have e : (srt xs).getD (a + i) 0 = (srt xs)[a + i]'(by omega) := by simp [show a + i < (srt xs).length by omega]
    omega
  apply srt_of
  · have p1 : ((srt xs).take a ++ (x :: (srt xs).drop a)).Perm (x :: ((srt xs).take a ++ (srt xs).drop a)) := List.perm_middle
    rw [List.take_append_drop] at p1
    exact p1.trans ((List.Perm.cons x (srt_perm xs)).trans (List.perm_append_singleton x xs).symm)
  · rw [List.pairwise_append]
    refine ⟨hs.sublist (List.take_sublist _ _), ?_, fun y hy z hz => ?_⟩
    · rw [List.pairwise_cons]
      exact ⟨at2, hs.sublist (List.drop_sublist _ _)⟩
    · rcases List.mem_cons.1 hz with rfl | hz
      · exact at1 y hy
      · exact Int.le_trans (at1 y hy) (at2 z hz)
theorem srt_mono {xs : List Int} {i j : Nat} (hij : i ≤ j) (hj : j < xs.length) : (srt xs).getD i 0 ≤ (srt xs).getD j 0 := by
  have hl := srt_len xs
  rcases Nat.lt_or_ge i j with h | h
  · have := List.pairwise_iff_getElem.1 (srt_sorted xs) i j (by omega) (by omega) h
    simpa [show i < (srt xs).length by omega, show j < (srt xs).length by omega] using this
  · rw [show i = j by omega]; exact Int.le_refl _

end Go.Proofs.Ytgfhmihnnjcagaa
