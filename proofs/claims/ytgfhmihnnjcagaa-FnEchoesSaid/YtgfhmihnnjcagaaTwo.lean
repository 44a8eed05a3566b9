/- two slices of one call, copies -/
import Derived.Test.YtgfhmihnnjcagaaW14
import Derived.Test.YtgfhmihnnjcagaaMark
import Derived.Test.YtgfhmihnnjcagaaW11
import Derived.Laws.AppendOwn
import Derived.Laws.AppendOwnNone
import Derived.OwnWalk
import Derived.Outline
import Derived.Lib.SliceRun
set_option linter.unusedVariables false
set_option linter.unusedSimpArgs false
namespace Go.Proofs.Ytgfhmihnnjcagaa
open Go.RowKit

/-- two slices lie in different blocks -/
def Apart (A A2 : Option Addr) : Prop := ∀ k, blk A = some k → blk A2 = some k → False
theorem Apart.symm {A A2 : Option Addr} (h : Apart A A2) : Apart A2 A := fun k h1 h2 => h k h2 h1
theorem OwnR.apart {w w2 : World} {B : Nat} {A A2 : Option Addr} {n c : Nat} {ys : List Int} (h : OwnR w B A n c ys) (hg : w.grownBy w2 (blk A2)) (hap : Apart A2 A) : OwnR w2 B A n c ys := by
  refine ⟨h.1, h.2.1, ?_⟩
  rcases h.2.2 with h0 | ⟨g, rfl, hB, hlt, hc⟩
  · exact .inl h0
  · refine .inr ⟨g, rfl, hB, Nat.lt_of_lt_of_le hlt hg.size, ?_⟩
    have hne : some g ≠ blk A2 := fun e => hap g e.symm rfl
    exact ⟨fun k hk => (World.cell?_of_block (w := w) (hg.block g hlt hne)).trans (hc.1 k hk), fun k hk => (World.frozen?_of_block (w := w) (hg.block g hlt hne)).trans (hc.2 k hk)⟩
theorem OwnV.stay {w w2 : World} {B : Nat} {v : Value} {ys : List Int} {o : Option Nat} (h : OwnV w B v ys) (hg : w.grownBy w2 o) (hne : ∀ k, v.ownBlock = some k → o = some k → False) : OwnV w2 B v ys := by
  refine ⟨h.1, ?_⟩
  rcases h.2 with hn | ⟨g, cap, cur, rfl, hB, hg2, rest⟩
  · exact .inl hn
  · exact .inr ⟨g, cap, cur, rfl, hB, (hg.block g (Array.getElem?_eq_some_iff.1 hg2).1 (fun e => hne g rfl e.symm)).trans hg2, rest⟩
theorem Cells.stay {w w2 : World} {g off : Nat} {xs : List Int} {o : Option Nat} (h : Cells w g off xs) (hg : w.grownBy w2 o) (hne : o ≠ some g) : Cells w2 g off xs := by
  refine ⟨fun k hk => ?_, fun k hk => ?_⟩
  · have hlt := World.block_lt_of_cell? w _ (h.1 k hk)
    exact (World.cell?_of_block (w := w) (hg.block g hlt (fun e => hne e.symm))).trans (h.1 k hk)
  · have hlt := World.block_lt_of_cell? w _ (h.1 k hk)
    exact (World.frozen?_of_block (w := w) (hg.block g hlt (fun e => hne e.symm))).trans (h.2 k hk)
/-- 'append' of one number, and where the new slice lies -/
theorem app_lies {ops : Array Oper} {rest : List Oper} {o : Oper} {a : Act} {Q : Exit → Act → World → Prop} {w : World} (hgd : o.guard = Option.none) (s x : Operand)
    (ho : o.op = .call { callee := .builtin .append, args := #[s, x], argTypes := #[22, 22] }) (B : Nat) (v : Value) (ys : List Int) (hs : a.eval s = v) (hown : OwnV w B v ys)
    (z : Int) (b : Nat) (hx : a.eval x = .slice (some ⟨b, 0, Option.none⟩) 1 1) (hb : w.cell? ⟨b, 0, Option.none⟩ = some (.int .i64 z)) (hl : ys.length ≤ 1099511627776) (hB : B ≤ w.heap.size)
    (h : ∀ g cap w', OwnV w' B (.slice (some ⟨g, 0, Option.none⟩) (ys.length + 1) cap) (ys ++ [z]) → w.grownBy w' v.ownBlock → (v.ownBlock = some g ∨ g = w.heap.size) → wpList Try.prog ops Q rest (a.put o.dst (.slice (some ⟨g, 0, Option.none⟩) (ys.length + 1) cap)) w') :
    wpList Try.prog ops Q (o :: rest) a w := by
  obtain ⟨i0, hi, hz0, hz1, hz2⟩ := info_parts info_app
  refine wpList_append_lies w hgd s x 22 ho B 2 i0 (.int .i64 0) 1 8 Try.underlying22 hi hz0 hz1 hz2 rfl (by decide) v ys.length (ys.map (Value.int .i64)) hs hown ⟨b, 0, Option.none⟩ 1 1 [.int .i64 z] hx rfl ?_ ?_ (by decide) (by unfold maxLen; omega) (by omega) hB _ rfl ?_
  · intro j u hj
    match j, hj with
    | 0, hj => simp at hj; subst hj; simpa [Addr.add] using hb
    | j + 1, hj => simp at hj
  · intro u hu; simp at hu; subst hu; rfl
  · intro g cap w' h2 hg hat hlt
    refine h g cap w' ?_ hg hat
    show w'.ownsRow B 2 1 _ (ys ++ [z]).length ((ys ++ [z]).map (Value.int .i64))
    rw [List.length_append, List.map_append]; exact h2
/-- what a copy of a list is -/
def CopyPost (xs : List Int) (w : World) (en : Ending) (w9 : World) : Prop := ∃ v : Value, en = .returned v ∧ OwnV w9 w.heap.size v xs ∧ Below w.heap.size w w9

set_option maxHeartbeats 2000000 in
set_option maxRecDepth 100000 in
theorem clone_any (A : Option Addr) (n c : Nat) (xs : List Int) (w : World) (hn : xs.length = n) (hm : n ≤ 1048576) (hr : Rd w A xs) (hA : A = none → n = 0 ∧ c = 0) :
    Calls Try.prog 80 #[.slice A n c] w (CopyPost xs w) := by
  obtain ⟨i0, hi, hz0, hz1, hz2⟩ := info_parts info_app
  have q22 : ∀ (w : World) (a : Option Addr) (n c n' c' : Nat), Sem.run Try.prog (binOp .eql 22 (.slice a n c) (.slice none n' c')) w = .ok (.bool a.isNone) w := fun w a n c n' c' => Lib.run_eql_slice_nil w _ _ a n c n' c' Try.underlying22
  have HM : Hid ((w.alloc (.cells #[] 2)).ownsRow w.heap.size 2 1 (.slice (some ⟨w.heap.size, 0, none⟩) 0 0) 0 []) := World.ownsRow_made w #[] 0 (Nat.le_refl _) (Nat.zero_le _) rfl
  cases A with
  | none =>
    obtain ⟨rfl, rfl⟩ := hA rfl
    obtain rfl : xs = [] := List.eq_nil_of_length_eq_zero hn
    have HO := Lib.hid (OwnV.empty w w.heap.size (Nat.le_refl _))
    go_enter Try.func80, Try.ntmps80
    go_wp2
    go_ret
    exact ⟨_, rfl, OwnV.none _ _, Below.refl _ _⟩
  | some a =>
    rcases Nat.eq_zero_or_pos n with h0 | h0
    · subst h0
      obtain rfl : xs = [] := List.eq_nil_of_length_eq_zero hn
      go_enter Try.func80, Try.ntmps80
      go_wp2_with (at_builtin; refine wpList_append_own _ rfl _ _ 22 rfl w.heap.size 2 i0 (.int .i64 0) 1 8 Try.underlying22 hi hz0 hz1 hz2 rfl (by decide) _ 0 [] rfl HM.out a 0 c [] rfl rfl (by intro j u hj; simp at hj) (by intro u hu; cases hu) (by unfold maxLen; omega) (by omega) (by simp) ?_; intro v' w1 hown hgrow hnil)
      go_ret
      exact ⟨v', rfl, by show World.ownsRow _ _ _ _ _ _ _; simpa using hown, ((Below.refl _ w).alloc (Nat.le_refl _) _).grown hgrow (by simp) (fun k hk => (World.ownsRow.lt HM.out k hk).1)⟩
    · rcases hr with rfl | ⟨b, off, hA2, hc⟩
      · exfalso; simp at hn; omega
      · obtain rfl : a = ⟨b, off, none⟩ := by injection hA2
        have HO := Lib.hid (OwnV.empty w w.heap.size (Nat.le_refl _))
        have HC2 : Hid (∀ k, k < n → (w.alloc (.cells #[] 2)).cell? ⟨b, off + k, none⟩ = some (.int .i64 (xs.getD k 0))) := fun k hk => later (Below.alloc (Below.refl w.heap.size w) (Nat.le_refl _) _) (hc k (by omega))
        have HP := Lib.hid hn
        clear hc hn hA2 hA
        go_enter Try.func80, Try.ntmps80
        go_wp2_with (at_builtin; refine app_ints rfl _ _ rfl w.heap.size _ [] rfl HO.out xs b off n c rfl HP.out h0 HC2.out (by simp; omega) (by simp) ?_; intro g cap w2 hown2 hb2)
        have H2 : Hid (OwnV w2 w.heap.size (.slice (some ⟨g, 0, none⟩) n cap) xs) := by show OwnV _ _ _ _; simpa using hown2
        have hB : Below w.heap.size w w2 := ((Below.refl w.heap.size w).alloc (Nat.le_refl _) _).trans hb2
        clear hown2 hb2
        go_ret
        exact ⟨_, rfl, H2.out, hB⟩

set_option maxHeartbeats 2000000 in
set_option maxRecDepth 100000 in
theorem own_any (A : Option Addr) (n c : Nat) (xs : List Int) (w : World) (hn : xs.length = n) (hm : n ≤ 1048576) (hr : Rd w A xs) (hA : A = none → n = 0 ∧ c = 0) :
    Calls Try.prog 114 #[.slice A n c] w (CopyPost xs w) := by
  obtain ⟨i0, hi, hz0, hz1, hz2⟩ := info_parts info_app
  have q22 : ∀ (w : World) (a : Option Addr) (n c n' c' : Nat), Sem.run Try.prog (binOp .eql 22 (.slice a n c) (.slice none n' c')) w = .ok (.bool a.isNone) w := fun w a n c n' c' => Lib.run_eql_slice_nil w _ _ a n c n' c' Try.underlying22
  have HM : Hid ((w.alloc (.cells #[] 2)).ownsRow w.heap.size 2 1 (.slice (some ⟨w.heap.size, 0, none⟩) 0 0) 0 []) := World.ownsRow_made w #[] 0 (Nat.le_refl _) (Nat.zero_le _) rfl
  cases A with
  | none =>
    obtain ⟨rfl, rfl⟩ := hA rfl
    obtain rfl : xs = [] := List.eq_nil_of_length_eq_zero hn
    have HO := Lib.hid (OwnV.empty w w.heap.size (Nat.le_refl _))
    go_enter Try.func114, Try.ntmps114
    go_wp2_with (at_builtin; refine wpList_append_own_none rfl _ _ 22 rfl w.heap.size 2 i0 1 Try.underlying22 hi _ 0 [] rfl HO.out rfl ?_)
    go_ret
    exact ⟨_, rfl, HO.out, by go_grown⟩
  | some a =>
    rcases Nat.eq_zero_or_pos n with h0 | h0
    · subst h0
      obtain rfl : xs = [] := List.eq_nil_of_length_eq_zero hn
      go_enter Try.func114, Try.ntmps114
      go_wp2_with (at_builtin; refine wpList_append_own _ rfl _ _ 22 rfl w.heap.size 2 i0 (.int .i64 0) 1 8 Try.underlying22 hi hz0 hz1 hz2 rfl (by decide) _ 0 [] rfl HM.out a 0 c [] rfl rfl (by intro j u hj; simp at hj) (by intro u hu; cases hu) (by unfold maxLen; omega) (by omega) (by simp) ?_; intro v' w1 hown hgrow hnil)
      go_ret
      exact ⟨v', rfl, by show World.ownsRow _ _ _ _ _ _ _; simpa using hown, ((Below.refl _ w).alloc (Nat.le_refl _) _).grown hgrow (by simp) (fun k hk => (World.ownsRow.lt HM.out k hk).1)⟩
    · rcases hr with rfl | ⟨b, off, hA2, hc⟩
      · exfalso; simp at hn; omega
      · obtain rfl : a = ⟨b, off, none⟩ := by injection hA2
        have HO := Lib.hid (OwnV.empty w w.heap.size (Nat.le_refl _))
        have HC2 : Hid (∀ k, k < n → (w.alloc (.cells #[] 2)).cell? ⟨b, off + k, none⟩ = some (.int .i64 (xs.getD k 0))) := fun k hk => later (Below.alloc (Below.refl w.heap.size w) (Nat.le_refl _) _) (hc k (by omega))
        have HP := Lib.hid hn
        clear hc hn hA2 hA
        go_enter Try.func114, Try.ntmps114
        go_wp2_with (at_builtin; refine app_ints rfl _ _ rfl w.heap.size _ [] rfl HO.out xs b off n c rfl HP.out h0 HC2.out (by simp; omega) (by simp) ?_; intro g cap w2 hown2 hb2)
        have H2 : Hid (OwnV w2 w.heap.size (.slice (some ⟨g, 0, none⟩) n cap) xs) := by show OwnV _ _ _ _; simpa using hown2
        have hB : Below w.heap.size w w2 := ((Below.refl w.heap.size w).alloc (Nat.le_refl _) _).trans hb2
        clear hown2 hb2
        go_ret
        exact ⟨_, rfl, H2.out, hB⟩
end Go.Proofs.Ytgfhmihnnjcagaa
