/- a region that draws its order, by a condition that every operation carries on -/
import Derived.Test.YtoccglmlpobeeaaBase
import Derived.Orders
import Derived.RegionTactic
import Derived.Below
import Derived.Laws.World
set_option linter.unusedVariables false
set_option linter.unusedSimpArgs false
namespace Go.Proofs.Ytoccglmlpobeeaa
open Go.RowKit

theorem count_drop (f g : Nat → Bool) (h : ∀ j, g j = true → f j = true) {i : Nat} (hf : f i = true) (hg : g i = false) : ∀ n, i < n → (List.range n).countP g < (List.range n).countP f := by
  intro n
  induction n with
  | zero => omega
  | succ n ih =>
    intro hi
    rw [List.range_succ, List.countP_append, List.countP_append]
    by_cases hin : i = n
    · subst hin
      have h1 : (List.range i).countP g ≤ (List.range i).countP f := List.countP_mono_left (fun x _ hx => h x hx)
      simp [hf, hg]; omega
    · have h0 := ih (by omega)
      have h2 : List.countP g [n] ≤ List.countP f [n] := List.countP_mono_left (fun x _ hx => h x hx)
      omega
/-- every operation waits for earlier ones alone -/
def waitsBack (ops : Array Oper) : Bool := (List.range ops.size).all fun i => ((ops[i]?).map fun o => o.after.all fun e => !Region.binds .any e || decide (e.on < i)).getD true
theorem waitsBack_spec {ops : Array Oper} (h : waitsBack ops = true) {i : Nat} {o : Oper} (ho : ops[i]? = some o) : ∀ e ∈ o.after, Region.binds .any e = true → e.on < i := by
  intro e he hb
  have hi : i < ops.size := (Array.getElem?_eq_some_iff.1 ho).1
  have h1 := List.all_eq_true.1 h i (List.mem_range.2 hi)
  rw [ho] at h1
  simp only [Option.map_some, Option.getD_some, Array.all_eq_true_iff_forall_mem] at h1
  have h2 := h1 e he
  simpa [hb] using h2
theorem all_up {ops : Array Oper} (h : waitsBack ops = true) {listed : Array Bool} (hs : listed.size = ops.size) (hr : Region.ready .any ops listed = []) : ∀ i, i < ops.size → listed.getD i false = true := by
  intro i
  induction i using Nat.strongRecOn with
  | _ i ih =>
    intro hi
    cases hl : listed.getD i false with
    | true => rfl
    | false =>
      exfalso
      have ho : ops[i]? = some ops[i] := Array.getElem?_eq_getElem hi
      have hm : i ∈ Region.ready .any ops listed := by
        refine mem_ready.2 ⟨?_, _, ho, fun e he hb => ?_⟩
        · have hi2 : i < listed.size := by omega
          simpa [Array.getD, hi2] using hl
        · have hlt := waitsBack_spec h ho e he hb
          exact ih e.on hlt (by omega)
      rw [hr] at hm
      cases hm
/-- Operation i carries the condition on. -/
def Carries (P : Program) (ops : Array Oper) (Q : Exit → Act → World → Prop) (I : (Nat → Bool) → Act → World → Prop) (i : Nat) (o : Oper) : Prop :=
  ∀ (L L' : Nat → Bool) (a : Act) (w : World), L i = false → (∀ e ∈ o.after, Region.binds .any e = true → L e.on = true) → L' i = true → (∀ j, j ≠ i → L' j = L j) → I L a w →
    ∀ K' : Act → World → Prop, (∀ a w, I L' a w → K' a w) → if Region.wanted o (yielded ops a.tmps) = true then Oper.wp P o a w K' Q else K' (a.put o.dst undef) w
theorem wpAny_inv {P : Program} {ops : Array Oper} {Q : Exit → Act → World → Prop} (I : (Nat → Bool) → Act → World → Prop) (hw : waitsBack ops = true)
    (hstep : ∀ (i : Nat) (o : Oper), ops[i]? = some o → Carries P ops Q I i o)
    (hend : ∀ (L : Nat → Bool) (a : Act) (w : World), (∀ j, j < ops.size → L j = true) → I L a w → Q .normal a w) :
    ∀ (fuel : Nat) (listed : Array Bool) (a : Act) (w : World), listed.size = ops.size → (List.range ops.size).countP (fun j => !listed.getD j false) ≤ fuel → I (fun j => listed.getD j false) a w → wpAny P .any ops Q fuel listed a w := by
  intro fuel
  induction fuel with
  | zero =>
    intro listed a w hs hc hI
    have hall : ∀ j, j < ops.size → listed.getD j false = true := by
      intro j hj
      have h0 := List.countP_eq_zero.1 (Nat.le_zero.1 hc) j (List.mem_range.2 hj)
      simpa using h0
    refine ⟨?_, hend _ a w hall hI⟩
    cases hr : Region.ready .any ops listed with
    | nil => rfl
    | cons j t =>
      exfalso
      have hj : j ∈ Region.ready .any ops listed := by rw [hr]; simp
      obtain ⟨h1, o, ho, _⟩ := mem_ready.1 hj
      have hjs : j < ops.size := (Array.getElem?_eq_some_iff.1 ho).1
      have h2 := hall j hjs
      have hj2 : j < listed.size := by omega
      simp [Array.getD, hj2] at h1 h2
      rw [h1] at h2
      cases h2
  | succ fuel ih =>
    intro listed a w hs hc hI
    refine ⟨fun hr => hend _ a w (all_up hw hs hr) hI, fun i hi => ?_⟩
    obtain ⟨h1, o, ho, hd⟩ := mem_ready.1 hi
    have his : i < ops.size := (Array.getElem?_eq_some_iff.1 ho).1
    have hi2 : i < listed.size := by omega
    have h0 : listed.getD i false = false := by simpa [Array.getD, hi2] using h1
    have hself : (listed.setIfInBounds i true).getD i false = true := by simp [hi2]
    refine wpOp_step ho (fun K' hK => ?_)
    refine hstep i o ho (fun j => listed.getD j false) (fun j => (listed.setIfInBounds i true).getD j false) a w h0 hd hself (fun j hj => getD_set_ne false (Ne.symm hj)) hI K' (fun a' w' hI' => hK a' w' ?_)
    refine ih _ a' w' (by simpa using hs) ?_ hI'
    have hlt := count_drop (fun j => !listed.getD j false) (fun j => !(listed.setIfInBounds i true).getD j false) (fun j hj => ?_) (i := i) (by simp only [h0]; rfl) (by simp only [hself]; rfl) ops.size his
    · omega
    · by_cases hji : j = i
      · subst hji; simp only [hself] at hj; cases hj
      · have := getD_set_ne (listed := listed) false (Ne.symm hji : i ≠ j)
        simp only [this] at hj
        exact hj
/-- A region that draws its order, by a condition that each of its operations carries on, whichever have come up. -/
theorem wp_region_inv {P : Program} {ops : Array Oper} {Q : Exit → Act → World → Prop} {id : Nat} {a : Act} {w : World} (I : Act → (Nat → Bool) → Act → World → Prop) (hm : P.follows .mixedOrders = true) (hw : waitsBack ops = true)
    (h0 : I a (fun _ => false) a w.drew)
    (hstep : ∀ (i : Nat) (o : Oper), ops[i]? = some o → Carries P ops Q (I a) i o)
    (hend : ∀ (L : Nat → Bool) (a' : Act) (w' : World), (∀ j, j < ops.size → L j = true) → I a L a' w' → Q .normal a' w') :
    (Code.region id ops true).wp P Q a w := by
  refine wp_region_any hm (wpAny_inv (I a) hw hstep hend ops.size (Array.replicate ops.size false) a _ (by simp) ?_ ?_)
  · exact Nat.le_trans List.countP_le_length (by simp)
  · have : (fun j => (Array.replicate ops.size false).getD j false) = fun _ => false := by
      funext j
      simp only [Array.getD]
      split <;> simp
    rw [this]
    exact h0
/-- a variable of two cells -/
def Box2 (w : World) (g : Nat) : Prop := (∃ y, w.cell? ⟨g, 0, none⟩ = some y) ∧ (∃ y, w.cell? ⟨g, 1, none⟩ = some y) ∧ w.frozen? ⟨g, 0, none⟩ = false ∧ w.frozen? ⟨g, 1, none⟩ = false
theorem Box2.lt {w : World} {g : Nat} (h : Box2 w g) : g < w.heap.size := by
  obtain ⟨⟨y, hy⟩, _⟩ := h
  exact World.block_lt_of_cell? w _ hy
theorem Box2.keep {w w2 : World} {g : Nat} (hb : Below w.heap.size w w2) (h : Box2 w g) : Box2 w2 g := by
  obtain ⟨⟨y, hy⟩, ⟨z, hz⟩, f0, f1⟩ := h
  exact ⟨⟨y, later hb hy⟩, ⟨z, later hb hz⟩, laterF hb hy f0, laterF hb hz f1⟩
theorem Box2.setc {w : World} {g : Nat} {x y : Value} (h : Box2 w g) : ((w.setCell ⟨g, 0, none⟩ x).setCell ⟨g, 1, none⟩ y).cell? ⟨g, 0, none⟩ = some x ∧ ((w.setCell ⟨g, 0, none⟩ x).setCell ⟨g, 1, none⟩ y).cell? ⟨g, 1, none⟩ = some y := by
  obtain ⟨⟨y0, hy⟩, ⟨z0, hz⟩, f0, f1⟩ := h
  have e : (⟨g, 0, none⟩ : Addr) ≠ ⟨g, 1, none⟩ := by simp
  refine ⟨?_, ?_⟩
  · rw [World.cell?_setCell_other _ _ _ _ e.symm]
    exact World.cell?_setCell_same _ _ _ hy
  · refine World.cell?_setCell_same _ _ _ (u := z0) ?_
    rw [World.cell?_setCell_other _ _ _ _ e]
    exact hz
theorem Box2.set {w : World} {g : Nat} {x y : Value} (h : Box2 w g) : Box2 ((w.setCell ⟨g, 0, none⟩ x).setCell ⟨g, 1, none⟩ y) g :=
  ⟨⟨_, h.setc.1⟩, ⟨_, h.setc.2⟩, by rw [World.frozen?_setCell, World.frozen?_setCell]; exact h.2.2.1, by rw [World.frozen?_setCell, World.frozen?_setCell]; exact h.2.2.2⟩
theorem set2_far {w : World} {g k i : Nat} {x y : Value} (h : k ≠ g) : ((w.setCell ⟨g, 0, none⟩ x).setCell ⟨g, 1, none⟩ y).cell? ⟨k, i, none⟩ = w.cell? ⟨k, i, none⟩ := by
  rw [World.cell?_setCell_other _ _ _ _ (by intro e; exact h (congrArg Addr.block e).symm), World.cell?_setCell_other _ _ _ _ (by intro e; exact h (congrArg Addr.block e).symm)]
theorem Box2.far {w : World} {g k : Nat} {x y : Value} (h : Box2 w k) (hk : k ≠ g) : Box2 ((w.setCell ⟨g, 0, none⟩ x).setCell ⟨g, 1, none⟩ y) k := by
  obtain ⟨⟨y0, hy⟩, ⟨z0, hz⟩, f0, f1⟩ := h
  exact ⟨⟨_, (set2_far hk).trans hy⟩, ⟨_, (set2_far hk).trans hz⟩, by rw [World.frozen?_setCell, World.frozen?_setCell]; exact f0, by rw [World.frozen?_setCell, World.frozen?_setCell]; exact f1⟩
end Go.Proofs.Ytoccglmlpobeeaa
