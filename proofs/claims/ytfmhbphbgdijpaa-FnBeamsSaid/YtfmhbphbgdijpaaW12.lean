/- walks: delays -/
import Derived.Test.YtfmhbphbgdijpaaW11
import Derived.Deep.RegionHeldLaw
import Derived.Maps.AppendAt
set_option linter.unusedVariables false
set_option linter.unusedSimpArgs false
namespace Go.Proofs.Ytfmhbphbgdijpaa
open Go.RowKit

/-- 'append' of a list of numbers, perhaps none, as one step of a region that draws its order -/
theorem step_app {ops : Array Oper} {o : Oper} {a : Act} {w : World} {K : Act → World → Prop} {Q : Exit → Act → World → Prop} {E : Prop} (hgd : o.guard = none) (s x : Operand)
    (ho : o.op = .call { callee := .builtin .append, args := #[s, x], argTypes := #[22, 22] }) (B : Nat) (v : Value) (ys : List Int) (hs : a.eval s = v) (hown : OwnV w B v ys)
    (zs : List Int) (ad : Addr) (p c : Nat) (hx : a.eval x = .slice (some ad) p c) (hp : zs.length = p) (hc : ∀ k, k < p → w.cell? (ad.add k) = some (.int .i64 (zs.getD k 0))) (hl : ys.length + p ≤ 1099511627776) (hB : B ≤ w.heap.size)
    (h : ∀ v' w', OwnV w' B v' (ys ++ zs) → w.grownBy w' v.ownBlock → Below B w w' → K (a.put o.dst v') w') :
    if Region.wanted o (yielded ops a.tmps) = true then Oper.wp Try.prog o a w K Q else E := by
  have hw : Region.wanted o (yielded ops a.tmps) = true := by simp [Region.wanted, hgd]
  rw [if_pos hw]
  obtain ⟨i0, hi, hz0, hz1, hz2⟩ := info_parts info_app
  have hnews : ∀ j u, (zs.map (Value.int .i64))[j]? = some u → w.cell? (ad.add j) = some u := by
    intro j u hj
    have hjl : j < zs.length := by
      rcases Nat.lt_or_ge j zs.length with h | h
      · exact h
      · rw [List.getElem?_eq_none (by simp; omega)] at hj; cases hj
    have hu : u = .int .i64 (zs.getD j 0) := by
      rw [List.getElem?_map, getD_at hjl] at hj; simpa using hj.symm
    subst hu
    exact hc j (by omega)
  obtain ⟨v', w', hr, h2, h3, _, _⟩ := run_append_own_at (P := Try.prog) (w := w) B 22 o.type 2 i0 (.int .i64 0) 1 8 Try.underlying22 hi hz0 hz1 hz2 rfl (by decide) v ys.length (ys.map (Value.int .i64)) hown ad p c (zs.map (Value.int .i64)) (by simp [hp]) hnews
    (by intro u hu; obtain ⟨x, _, rfl⟩ := List.mem_map.1 hu; rfl) (by unfold maxLen; omega) (by omega) hB
  unfold Oper.wp execOp
  simp only [ho, resolve, invoke, builtin, Sem.run_bind, Sem.run_pure, Result.andThen_ok, List.map_toArray, List.map_cons, List.map_nil, hs, hx, hr]
  refine h v' w' ?_ h3 ?_
  · show w'.ownsRow B 2 1 _ (ys ++ zs).length ((ys ++ zs).map (Value.int .i64))
    rw [List.length_append, List.map_append, hp]; exact h2
  · exact (Below.refl B w).grown h3 hB (fun k hk => (World.ownsRow.lt hown k hk).1)
theorem cell_at {W : World} {b : Nat} {x : Int} (hb : b = W.heap.size) : (W.alloc (.cells #[Value.int .i64 x] 2)).cell? ⟨b, 0, none⟩ = some (.int .i64 x) := by
  subst hb; exact cell_new1 _ _
theorem OwnR.lowB {w : World} {B B2 : Nat} {A : Option Addr} {n c : Nat} {ys : List Int} (h : OwnR w B2 A n c ys) (hB : B ≤ B2) : OwnR w B A n c ys := by
  refine ⟨h.1, h.2.1, ?_⟩
  rcases h.2.2 with h0 | ⟨g, rfl, hg, rest⟩
  · exact .inl h0
  · exact .inr ⟨g, rfl, Nat.le_trans hB hg, rest⟩
theorem below_app1 {B : Nat} {w wr w2 : World} {o : Obj} (h : Below B w wr) (hB : B ≤ w.heap.size) (hb : Below B (wr.alloc o) w2) : Below B w w2 :=
  (Below.alloc h (Nat.le_trans hB h.size) o).trans hb
theorem below_app1d {B : Nat} {w wr w2 : World} {o : Obj} (h : Below B w wr) (hB : B ≤ w.heap.size) (hb : Below B (wr.drew.alloc o) w2) : Below B w w2 :=
  (Below.alloc (Below.drew h) (Nat.le_trans hB h.size) o).trans hb

set_option maxHeartbeats 4000000 in
theorem iDly_any (num den : Int) (A : Option Addr) (n c : Nat) (xs : List Int) (w : World) (hn : xs.length = n) (hm : n ≤ 12) (hb : Hid (Bd 10000 xs)) (hnum : -1000000000 ≤ num ∧ num ≤ 1000000000) (hden : 1300000 ≤ den ∧ den ≤ 1700000000) (hr : Rd w A xs) :
    Calls Try.prog 77 #[.agg #[.int .i64 num, .int .i64 den], .slice A n c] w fun en w9 => ∃ A9 c9, en = .returned (.slice A9 n c9) ∧ OwnR w9 w.heap.size A9 n c9 (dlys xs num den) ∧ Below w.heap.size w w9 := by
  have HR := Lib.hid hr
  have HN := Lib.hid hn
  clear hr hn
  go_enter Try.func77, Try.ntmps77
  go_wp2_with fail
  have hB0 : Below w.heap.size w (w.alloc (.cells #[.int .i64 num, .int .i64 den] 87)) := by go_grown
  have c0 : (w.alloc (.cells #[.int .i64 num, .int .i64 den] 87)).cell? ⟨w.heap.size, 0, none⟩ = some (.int .i64 num) := by go_simp
  have c1 : (w.alloc (.cells #[.int .i64 num, .int .i64 den] 87)).cell? ⟨w.heap.size, 1, none⟩ = some (.int .i64 den) := by go_simp
  generalize w.alloc (.cells #[.int .i64 num, .int .i64 den] 87) = w1 at hB0 c0 c1 ⊢
  have HR1 : Hid (Rd w1 A xs) := HR.out.below hB0
  have hz1 := hB0.size
  clear HR
  go_wp2
  go_loopw [5, 10] (fun v i wr => ∃ k : Nat, k ≤ n ∧ i = .int .i64 (k : Int) ∧ Hid (OwnV wr w1.heap.size v (dlysTo xs num den k)) ∧ Below w1.heap.size w1 wr) (fun _ i _ => n - (intOf i).toNat)
  case atStart => exact ⟨0, Nat.zero_le _, rfl, OwnV.none _ _, Below.refl _ _⟩
  case round =>
    obtain ⟨k, hk, rfl, HO, hbel⟩ := hrel
    by_cases hlt : k < n
    · rcases HR1.out with h0 | ⟨b, off, hA, hc⟩
      · exfalso; have h1 := HN.out; rw [h0] at h1; simp at h1; omega
      subst hA
      have hx := later hbel (hc k (by rw [HN.out]; exact hlt))
      have d0 := later hbel c0
      have d1 := later hbel c1
      have hxb := hb.out k
      have hkl := dlysTo_len (xs := xs) (num := num) (den := den) (k := k) (by rw [HN.out]; exact hk)
      have HS := Lib.hid (dlysTo_snoc (xs := xs) (num := num) (den := den) (k := k) (by rw [HN.out]; exact hlt))
      obtain ⟨x, hxx⟩ : ∃ x, x = xs.getD k 0 := ⟨_, rfl⟩
      rw [← hxx] at hx hxb HS
      clear hc hxx
      have m1 := bd_mul hxb hnum
      go_wp2_with (first | (go_at_call 97; refine (iNear_any _ _ _ (by first | assumption | omega) (by first | assumption | omega) (by first | assumption | omega)).mono ?_; rintro en w1 ⟨rfl, rfl⟩) | (at_builtin; refine app_int rfl _ _ rfl w1.heap.size _ (dlysTo xs num den k) rfl (OwnV.alloc HO.out _) _ _ rfl (cell_new1 _ _) (by omega) (by have hsz := hbel.size; (try simp only [World.size_alloc, World.size_drew]); omega) ?_; intro g cap w2 hown2 hb2))
      go_roundw
      case rel => exact ⟨k + 1, by omega, by go_num, by show OwnV _ _ _ _; rw [← HS.out]; rw [hkl] at hown2; exact hown2, below_app1 hbel (Nat.le_refl _) hb2⟩
      case measure => simp [intOf]; omega
    · obtain rfl : k = n := by omega
      have HE : Hid (dlysTo xs num den k = dlys xs num den) := dlysTo_all HN.out
      have ho := HO.out
      rw [HE.out] at ho
      obtain ⟨A9, c9, rfl, hR⟩ := ho.R
      have hl : (dlys xs num den).length = k := by rw [dlys_len, HN.out]
      rw [hl] at hR ⊢
      clear HO ho hl
      go_wp2
      go_ret
      exact ⟨A9, c9, rfl, hR.lowB hz1, bseq hB0 hbel⟩

theorem mul_form (x r s : Int) : 10 * x * r * s = x * (10 * r * s) := by grind
set_option maxRecDepth 100000 in
set_option maxHeartbeats 4000000 in
theorem sDly_any (A : Option Addr) (n c : Nat) (xs : List Int) (cc s h r v : Int) (w : World) (hn : xs.length = n) (hm : n ≤ 12) (hb : Hid (Bd 10000 xs)) (hs : -1000 ≤ s ∧ s ≤ 1000) (hh : 1 ≤ h ∧ h ≤ 1000) (hrr : 1 ≤ r ∧ r ≤ 100000) (hv : 1300000 ≤ v ∧ v ≤ 1700000) (hr : Rd w A xs) :
    Calls Try.prog 80 #[.slice A n c, .agg #[.int .i64 cc, .int .i64 s, .int .i64 h], .int .i64 r, .int .i64 v] w fun en w9 => ∃ A9 c9, en = .returned (.slice A9 n c9) ∧ OwnR w9 w.heap.size A9 n c9 (dlys xs (10 * r * s) (h * v)) ∧ Below w.heap.size w w9 := by
  have HR := Lib.hid hr
  have HN := Lib.hid hn
  have hnum := num_bd hrr hs
  have hden := den_bd hh hv
  clear hr hn
  go_enter Try.func80, Try.ntmps80
  go_wp2_with fail
  have hB0 : Below w.heap.size w (w.alloc (.cells #[.int .i64 cc, .int .i64 s, .int .i64 h] 42)) := by go_grown
  have c0 : (w.alloc (.cells #[.int .i64 cc, .int .i64 s, .int .i64 h] 42)).cell? ⟨w.heap.size, 0, none⟩ = some (.int .i64 cc) := by go_simp
  have c1 : (w.alloc (.cells #[.int .i64 cc, .int .i64 s, .int .i64 h] 42)).cell? ⟨w.heap.size, 1, none⟩ = some (.int .i64 s) := by go_simp
  have c2 : (w.alloc (.cells #[.int .i64 cc, .int .i64 s, .int .i64 h] 42)).cell? ⟨w.heap.size, 2, none⟩ = some (.int .i64 h) := by go_simp
  have hsz1 : (w.alloc (.cells #[.int .i64 cc, .int .i64 s, .int .i64 h] 42)).heap.size = w.heap.size + 1 := by simp
  generalize w.alloc (.cells #[.int .i64 cc, .int .i64 s, .int .i64 h] 42) = w1 at hB0 c0 c1 c2 hsz1 ⊢
  have HSZ := Lib.hid hsz1
  clear hsz1
  have HR1 : Hid (Rd w1 A xs) := HR.out.below hB0
  have hz1 := hB0.size
  clear HR
  go_wp2
  go_loopw [9, 10] (fun u i wr => ∃ k : Nat, k ≤ n ∧ i = .int .i64 (k : Int) ∧ Hid (OwnV wr w1.heap.size u (dlysTo xs (10 * r * s) (h * v) k)) ∧ Below w1.heap.size w1 wr) (fun _ i _ => n - (intOf i).toNat)
  case atStart => exact ⟨0, Nat.zero_le _, rfl, by show OwnV _ _ _ _; rw [← HSZ.out]; exact OwnV.empty _ _ (Nat.le_refl _), by go_grown⟩
  case round =>
    obtain ⟨k, hk, rfl, HO, hbel⟩ := hrel
    by_cases hlt : k < n
    · rcases HR1.out with h0 | ⟨b, off, hA, hc⟩
      · exfalso; have h1 := HN.out; rw [h0] at h1; simp at h1; omega
      subst hA
      have hx0 := hc k (by rw [HN.out]; exact hlt)
      have hx := later hbel hx0
      have d0 := later hbel c0
      have d1 := later hbel c1
      have d2 := later hbel c2
      have hxb := hb.out k
      have hkl := dlysTo_len (xs := xs) (num := 10 * r * s) (den := h * v) (k := k) (by rw [HN.out]; exact hk)
      have HS := Lib.hid (dlysTo_snoc (xs := xs) (num := 10 * r * s) (den := h * v) (k := k) (by rw [HN.out]; exact hlt))
      obtain ⟨x, hxx⟩ : ∃ x, x = xs.getD k 0 := ⟨_, rfl⟩
      rw [← hxx] at hx hx0 hxb HS
      clear hc hxx
      rw [← mul_form] at HS
      have m1 := bd_mul (a := 10 * x) (b := r) (A := 100000) (B := 100000) (by omega) (by omega)
      have m2 := bd_mul (a := 10 * x * r) (b := s) (A := 10000000000) (B := 1000) (by omega) (by omega)
      have e0 : IntKind.i64.wrap (10 * x) = 10 * x := IntWalk.i64_in _ (by omega)
      have e1 : IntKind.i64.wrap (10 * x * r) = 10 * x * r := IntWalk.i64_in _ (by omega)
      have e2 : IntKind.i64.wrap (10 * x * r * s) = 10 * x * r * s := IntWalk.i64_in _ (by omega)
      have e3 : IntKind.i64.wrap (h * v) = h * v := IntWalk.i64_in _ (by omega)
      have hi0 : (k : Int) < n := by omega
      go_wp2
      go_region_held_law (fun w9 => w9.cell? ⟨b, off + k, none⟩ = some (.int .i64 x) ∧ w9.cell? ⟨w.heap.size, 1, none⟩ = some (.int .i64 s) ∧ w9.cell? ⟨w.heap.size, 2, none⟩ = some (.int .i64 h)) (first | with_reducible assumption | with_reducible exact ⟨later hb2 hx0, later hb2 c1, later hb2 c2⟩ | go_keep) (first | (go_at_call 99; refine (sNear_any (10 * x * r * s) (h * v) _ (by omega) (by omega) (by omega)).mono ?_; rintro en wq ⟨rfl, rfl⟩) | (refine step_app rfl (.tmp 18) (.tmp 34) rfl w1.heap.size _ (dlysTo xs (10 * r * s) (h * v) k) rfl ?_ [near (10 * x * r * s) (h * v)] ⟨wr.heap.size, 0, none⟩ 1 1 rfl rfl ?_ (by omega) (by have hsz := hbel.size; (try simp only [World.size_alloc, World.size_drew]); omega) ?_; (focus (exact OwnV.alloc (OwnV.drewN HO.out 1) _)); (focus (intro j hj; obtain rfl : j = 0 := (by omega); show World.cell? _ ⟨_, 0, none⟩ = some (.int .i64 _); exact cell_at rfl)); intro v2 w2 hown2 _ hb1; have hb2 := below_app1d hbel (Nat.le_refl _) hb1; clear hb1) | fail)
      all_goals go_wp2
      all_goals go_roundw
      case rel => exact ⟨k + 1, by omega, by go_num, by show OwnV _ _ _ _; rw [← HS.out]; exact hown2, hb2⟩
      case measure => simp [intOf]; omega
    · obtain rfl : k = n := by omega
      have HE : Hid (dlysTo xs (10 * r * s) (h * v) k = dlys xs (10 * r * s) (h * v)) := dlysTo_all HN.out
      have ho := HO.out
      rw [HE.out] at ho
      obtain ⟨A9, c9, rfl, hR⟩ := ho.R
      have hl : (dlys xs (10 * r * s) (h * v)).length = k := by rw [dlys_len, HN.out]
      rw [hl] at hR ⊢
      clear HO ho hl
      go_wp2
      go_ret
      exact ⟨A9, c9, rfl, hR.lowB hz1, bseq hB0 hbel⟩
end Go.Proofs.Ytfmhbphbgdijpaa
