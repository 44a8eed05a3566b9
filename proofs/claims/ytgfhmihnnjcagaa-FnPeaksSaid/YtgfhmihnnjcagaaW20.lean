/- walks: a list sorted by the reference -/
import Derived.Test.YtgfhmihnnjcagaaW18
import Derived.Test.YtgfhmihnnjcagaaTwo
import Derived.Deep.RegionHeldLaw
import Derived.Maps.AppendAt
import Derived.Deep.QuietTactic
import Derived.BigQuiet
set_option linter.unusedVariables false
set_option linter.unusedSimpArgs false
namespace Go.Proofs.Ytgfhmihnnjcagaa
open Go.RowKit

theorem keep_pair {w W : World} {p : Addr} {v : Value} (hb : Below w.heap.size w W) (h : w.cell? p = some v) : W.cell? p = some v ∧ Below w.heap.size w W := ⟨later hb h, hb⟩
theorem cell_at {W : World} {b : Nat} {x : Int} (hb : b = W.heap.size) : (W.alloc (.cells #[Value.int .i64 x] 2)).cell? ⟨b, 0, none⟩ = some (.int .i64 x) := by
  subst hb; exact cell_new1 _ _
theorem cell_old {W : World} {p : Addr} {v : Value} {o : Obj} (h : W.cell? p = some v) : (W.alloc o).cell? p = some v := later (Below.alloc (Below.refl _ _) (Nat.le_refl _) o) h
theorem addr_add (g o j : Nat) : (⟨g, o, none⟩ : Addr).add j = ⟨g, o + j, none⟩ := by unfold Addr.add; split <;> simp_all
theorem cells_take {w W : World} {g k q : Nat} {S : List Int} (h : ∀ j, j < k → w.cell? ⟨g, j, none⟩ = some (.int .i64 (S.getD j 0))) (hb : Below w.heap.size w W) (hq : q ≤ k) (hl : S.length = k) : ∀ j, j < q → W.cell? ((⟨g, 0, none⟩ : Addr).add j) = some (.int .i64 ((S.take q).getD j 0)) := fun j hj => by
  rw [addr_add, Nat.zero_add, later hb (h j (by omega))]
  simp [List.getElem?_take, hj]
theorem cells_drop {w W : World} {g k q : Nat} {S : List Int} (h : ∀ j, j < k → w.cell? ⟨g, j, none⟩ = some (.int .i64 (S.getD j 0))) (hb : Below w.heap.size w W) (hl : S.length = k) : ∀ j, j < k - q → W.cell? ((⟨g, q, none⟩ : Addr).add j) = some (.int .i64 ((S.drop q).getD j 0)) := fun j hj => by
  rw [addr_add, later hb (h (q + j) (by omega))]
  simp
theorem own_srt {w : World} {B B2 q : Nat} {v : Value} {S T : List Int} {x : Int} (hB : B ≤ B2) (h : OwnV w B2 v ([] ++ S.take q ++ [x] ++ S.drop q)) (e : T = S.take q ++ x :: S.drop q) : OwnV w B v T := by
  have e2 : [] ++ S.take q ++ [x] ++ S.drop q = T := by rw [e]; simp
  rw [e2] at h
  refine ⟨h.1, ?_⟩
  rcases h.2 with hn | ⟨g, cap, cur, rfl, hB2, rest⟩
  · exact .inl hn
  · exact .inr ⟨g, cap, cur, rfl, Nat.le_trans hB hB2, rest⟩
theorem own_form {w : World} {B n : Nat} {v : Value} {ys : List Int} (h : OwnV w B v ys) (hn : ys.length = n) (h0 : 0 < n) : ∃ g c, v = .slice (some ⟨g, 0, none⟩) n c ∧ n ≤ c := by
  obtain ⟨A, c, e, hR⟩ := h.R
  rcases hR.2.2 with ⟨_, h1⟩ | ⟨g, rfl, _⟩
  · omega
  · exact ⟨g, c, by rw [e, hn], by rw [← hn]; exact hR.2.1⟩
theorem own_at {W : World} {b B : Nat} (hb : b = W.heap.size) (hB : B ≤ b) : OwnV (W.alloc (.cells #[] 2)) B (.slice (some ⟨b, 0, none⟩) 0 0) [] := by
  subst hb; exact OwnV.empty W B hB
/-- 'append' of a list of numbers, perhaps none, as one step of a region that draws its order -/
theorem step_app {ops : Array Oper} {o : Oper} {a : Act} {w : World} {K : Act → World → Prop} {Q : Exit → Act → World → Prop} {E : Prop} (hgd : o.guard = none) (s x : Operand)
    (ho : o.op = .call { callee := .builtin .append, args := #[s, x], argTypes := #[22, 22] }) (B : Nat) (v : Value) (ys : List Int) (hs : a.eval s = v) (hown : OwnV w B v ys)
    (zs : List Int) (ad : Addr) (p c : Nat) (hx : a.eval x = .slice (some ad) p c) (hp : zs.length = p) (hc : ∀ k, k < p → w.cell? (ad.add k) = some (.int .i64 (zs.getD k 0))) (hl : ys.length + p ≤ 1099511627776) (hB : B ≤ w.heap.size)
    (h : ∀ v' w', OwnV w' B v' (ys ++ zs) → w.grownBy w' v.ownBlock → Below B w w' → K (a.put o.dst v') w') :
    if Region.wanted o (yielded ops a.tmps) = true then Oper.wp Try.prog o a w K Q else E := by
  have hw : Region.wanted o (yielded ops a.tmps) = true := by simp [Region.wanted, hgd]
  rw [if_pos hw]
  obtain ⟨i0, hi, hz0, hz1, hz2⟩ := info_parts info_app
  have hnews : ∀ j u, (zs.map (Value.int .i64))[j]? = some u → w.cell? (ad.add j) = some u := by
    intro j u hj
    have hjl : j < zs.length := by
      rcases Nat.lt_or_ge j zs.length with h | h
      · exact h
      · rw [List.getElem?_eq_none (by simp; omega)] at hj; cases hj
    have hu : u = .int .i64 (zs.getD j 0) := by
      rw [List.getElem?_map, getD_at hjl] at hj; simpa using hj.symm
    subst hu
    exact hc j (by omega)
  obtain ⟨v', w', hr, h2, h3, _, _⟩ := run_append_own_at (P := Try.prog) (w := w) B 22 o.type 2 i0 (.int .i64 0) 1 8 Try.underlying22 hi hz0 hz1 hz2 rfl (by decide) v ys.length (ys.map (Value.int .i64)) hown ad p c (zs.map (Value.int .i64)) (by simp [hp]) hnews
    (by intro u hu; obtain ⟨x, _, rfl⟩ := List.mem_map.1 hu; rfl) (by unfold maxLen; omega) (by omega) hB
  unfold Oper.wp execOp
  simp only [ho, resolve, invoke, builtin, Sem.run_bind, Sem.run_pure, Result.andThen_ok, List.map_toArray, List.map_cons, List.map_nil, hs, hx, hr]
  refine h v' w' ?_ h3 ?_
  · show w'.ownsRow B 2 1 _ (ys ++ zs).length ((ys ++ zs).map (Value.int .i64))
    rw [List.length_append, List.map_append, hp]; exact h2
  · exact (Below.refl B w).grown h3 hB (fun k hk => (World.ownsRow.lt hown k hk).1)
set_option maxRecDepth 100000 in
set_option maxHeartbeats 16000000 in
theorem sorted_any (A : Option Addr) (n c : Nat) (xs : List Int) (w : World) (hn : xs.length = n) (hm : n ≤ 1048576) (hr : Rd w A xs) :
    Calls Try.prog 77 #[.slice A n c] w fun en w9 => ∃ A9 c9, en = .returned (.slice A9 (srt xs).length c9) ∧ OwnR w9 w.heap.size A9 (srt xs).length c9 (srt xs) ∧ Below w.heap.size w w9 := by
  have HR := Lib.hid hr; clear hr
  have HN := Lib.hid hn; clear hn
  go_enter Try.func77, Try.ntmps77
  go_wp2
  go_loopw [3, 4] (fun v i wr => ∃ k : Nat, k ≤ n ∧ i = .int .i64 (k : Int) ∧ Hid (OwnV wr w.heap.size v (srt (xs.take k)) ∧ ∃ g c, v = .slice (some ⟨g, 0, none⟩) k c ∧ k ≤ c) ∧ Below w.heap.size w wr) (fun _ i _ => n - (intOf i).toNat)
  case atStart => exact ⟨0, Nat.zero_le _, rfl, ⟨by rw [List.take_zero, show srt [] = [] from List.eq_nil_of_length_eq_zero (srt_len [])]; exact OwnV.empty _ _ (Nat.le_refl _), _, _, rfl, Nat.le_refl _⟩, by go_grown⟩
  case round =>
    obtain ⟨k, hk, rfl, HO, hbel⟩ := hrel
    obtain ⟨wo, rfl⟩ : ∃ wo : World, wo = wr := ⟨_, rfl⟩
    obtain ⟨hown, g, cp, rfl, hkc⟩ := HO.out
    have hsl : (srt (xs.take k)).length = k := by rw [srt_len, List.length_take, HN.out]; omega
    have HOW := Lib.hid hown
    obtain ⟨A5, c5, e5, hR5⟩ := hown.R
    have HCG : Hid (∀ j, j < k → wo.cell? ⟨g, j, none⟩ = some (.int .i64 ((srt (xs.take k)).getD j 0))) := by
      show ∀ j, _
      intro j hj
      injection e5 with e1 e2 e3
      rcases hR5.2.2 with ⟨h0, _⟩ | ⟨g5, h5, _, _, hc5⟩
      · rw [h0] at e1; cases e1
      · rw [h5] at e1; injection e1 with e1; injection e1 with e1
        subst e1
        have := hc5.1 j (by omega)
        rwa [Nat.zero_add] at this
    have HSL := Lib.hid hsl
    clear hown e5 hR5 HO hsl
    by_cases hlt : k < n
    · rcases HR.out with h0 | ⟨b, off, hA, hc⟩
      · exfalso; have h1 := HN.out; rw [h0] at h1; simp at h1; omega
      subst hA
      have HX0 := Lib.hid (hc k (by rw [HN.out]; exact hlt))
      have hbl : b < w.heap.size := World.block_lt_of_cell? w _ HX0.out
      have hx := later hbel HX0.out
      clear hc
      have HTK : Hid (xs.take (k + 1) = xs.take k ++ [xs.getD k 0]) := take_snoc (by rw [HN.out]; exact hlt)
      have HMO := Lib.hid (fun i j => srt_mono (xs := xs.take k) (i := i) (j := j))
      have HTL : Hid ((xs.take k).length = k) := by show _ = _; rw [List.length_take, HN.out]; omega
      have HIN := Lib.hid (fun a => srt_ins (xs := xs.take k) (x := xs.getD k 0) (a := a))
      obtain ⟨x, hxx⟩ : ∃ x, x = xs.getD k 0 := ⟨_, rfl⟩
      obtain ⟨S, hS⟩ : ∃ S, S = srt (xs.take k) := ⟨_, rfl⟩
      rw [← hxx] at hx HTK HIN
      rw [← hS] at HCG HSL HOW HMO HIN
      have HSS := Lib.hid hS; clear hxx hS
      have hki : (k : Int) < n := by omega
      go_wp2
      go_loopw [5] (fun i w4 => ∃ (a m : Nat), a ≤ k ∧ i = .int .i64 (a : Int) ∧ Hid (∀ j, a ≤ j → j < k → x < S.getD j 0) ∧ w4 = wo.drewN m) (fun i _ => (intOf i).toNat)
      case atStart => exact ⟨k, 0, Nat.le_refl _, rfl, fun j h1 h2 => absurd h1 (by omega), rfl⟩
      case round =>
        obtain ⟨a, m, ha, rfl, HA, hw4⟩ := hrel
        have HW := Lib.hid hw4; clear hw4
        have hx4 : wr.cell? ⟨b, off + k, none⟩ = some (.int .i64 x) := by rw [HW.out]; exact hx
        cases a with
        | zero =>
          have HFIN : Hid (srt (xs.take (k + 1)) = S.take 0 ++ x :: S.drop 0) := by
            show _ = _
            rw [HTK.out]
            exact (HIN.out 0 (Nat.zero_le _) (fun i hi => absurd hi (Nat.not_lt_zero _)) (fun i h1 h2 => HA.out i h1 (by rw [HTL.out] at h2; exact h2))).symm
          have hQ : 0 ≤ k := Nat.zero_le _
          go_wp2
          go_quiet (fail)
          go_wp2
          obtain ⟨w5, hw5⟩ : ∃ w5, w5 = wr.drewN nq := ⟨_, rfl⟩
          have HO5 : Hid (OwnV w5 w.heap.size (.slice (some ⟨g, 0, none⟩) k cp) S) := by rw [hw5, HW.out]; exact HOW.out
          have HC5 : Hid (∀ j, j < k → w5.cell? ⟨g, j, none⟩ = some (.int .i64 (S.getD j 0))) := by rw [hw5, HW.out]; exact HCG.out
          have hx5 : w5.cell? ⟨b, off + k, none⟩ = some (.int .i64 x) := by rw [hw5, HW.out]; exact hx
          have hb5 : Below w.heap.size w w5 := by rw [hw5, HW.out]; exact below_drewN (below_drewN hbel m) nq
          rw [← hw5]
          clear hw5 hx4
          have hz5 := hb5.size
          have hi5 : (0 : Int) ≤ (0 : Int) := by omega
          have hi6 : (0 : Int) ≤ (k : Int) := by omega
          have hi7 : (0 : Int) ≤ (cp : Int) := by omega
          go_region_held_law (fun w9 => w9.cell? ⟨b, off + k, none⟩ = some (.int .i64 x) ∧ Below w5.heap.size w5 w9) (first | with_reducible assumption | (refine keep_pair ?_ hx5; repeat (first | with_reducible assumption | exact Below.refl _ _ | refine Below.drew ?_ | refine Below.alloc ?_ (by (try simp only [World.size_alloc, World.size_drew]); omega) _))) (first | (refine step_app rfl (.tmp 31) (.tmp 34) rfl w5.heap.size (.slice (some ⟨w5.heap.size, 0, none⟩) 0 0) [] ?_ ?_ (S.take 0) ⟨g, 0, none⟩ 0 cp (by simp [Act.eval, Act.put]) (by rw [List.length_take, HSL.out]; omega) (cells_take HC5.out (by repeat (first | with_reducible assumption | exact Below.refl _ _ | refine Below.drew ?_ | refine Below.alloc ?_ (by (try simp only [World.size_alloc, World.size_drew]); omega) _)) hQ HSL.out) (by simp <;> omega) (by (try simp only [World.size_alloc, World.size_drew]); omega) ?_; (focus (simp [Act.eval, Act.put] <;> fail)); (focus (first | (refine own_at ?_ ?_; (focus (simp <;> fail)); (focus omega)) | (refine OwnV.alloc (own_at ?_ ?_) _; (focus (simp <;> fail)); (focus omega)))); intro v35 w35 hown35 hg35 hb35; have hz35 := hb35.size; (try simp only [World.size_alloc, World.size_drew] at hz35); have hw35 : Below w5.heap.size w5 w35 := Below.trans (by repeat (first | with_reducible assumption | exact Below.refl _ _ | refine Below.drew ?_ | refine Below.alloc ?_ (by (try simp only [World.size_alloc, World.size_drew]); omega) _)) hb35) | (refine step_app rfl (.tmp 31) (.tmp 34) rfl w5.heap.size (.slice (some ⟨(w5.heap.size + 1), 0, none⟩) 0 0) [] ?_ ?_ (S.take 0) ⟨g, 0, none⟩ 0 cp (by simp [Act.eval, Act.put]) (by rw [List.length_take, HSL.out]; omega) (cells_take HC5.out (by repeat (first | with_reducible assumption | exact Below.refl _ _ | refine Below.drew ?_ | refine Below.alloc ?_ (by (try simp only [World.size_alloc, World.size_drew]); omega) _)) hQ HSL.out) (by simp <;> omega) (by (try simp only [World.size_alloc, World.size_drew]); omega) ?_; (focus (simp [Act.eval, Act.put] <;> fail)); (focus (first | (refine own_at ?_ ?_; (focus (simp <;> fail)); (focus omega)) | (refine OwnV.alloc (own_at ?_ ?_) _; (focus (simp <;> fail)); (focus omega)))); intro v35 w35 hown35 hg35 hb35; have hz35 := hb35.size; (try simp only [World.size_alloc, World.size_drew] at hz35); have hw35 : Below w5.heap.size w5 w35 := Below.trans (by repeat (first | with_reducible assumption | exact Below.refl _ _ | refine Below.drew ?_ | refine Below.alloc ?_ (by (try simp only [World.size_alloc, World.size_drew]); omega) _)) hb35) | (refine step_app rfl (.tmp 35) (.tmp 40) rfl w5.heap.size v35 ([] ++ S.take 0) (by simp [Act.eval, Act.put]) ?_ [x] ⟨w35.heap.size, 0, none⟩ 1 1 ?_ rfl ?_ (by rw [List.nil_append, List.length_take, HSL.out]; omega) (by (try simp only [World.size_alloc, World.size_drew]); omega) ?_; (focus (exact OwnV.alloc hown35 _)); (focus (simp [Act.eval, Act.put] <;> fail)); (focus (intro j hj; obtain rfl : j = 0 := (by omega); show World.cell? _ ⟨_, 0, none⟩ = some (.int .i64 x); (exact cell_at rfl))); intro v41 w41 hown41 hg41 hb41; have hz41 := hb41.size; (try simp only [World.size_alloc, World.size_drew] at hz41); have hw41 : Below w5.heap.size w5 w41 := Below.trans (by repeat (first | with_reducible assumption | exact Below.refl _ _ | refine Below.drew ?_ | refine Below.alloc ?_ (by (try simp only [World.size_alloc, World.size_drew]); omega) _)) hb41) | (refine step_app rfl (.tmp 35) (.tmp 40) rfl w5.heap.size v35 ([] ++ S.take 0) (by simp [Act.eval, Act.put]) ?_ [x] ⟨w5.heap.size, 0, none⟩ 1 1 ?_ rfl ?_ (by rw [List.nil_append, List.length_take, HSL.out]; omega) (by (try simp only [World.size_alloc, World.size_drew]); omega) ?_; (focus (exact hown35)); (focus (simp [Act.eval, Act.put] <;> fail)); (focus (intro j hj; obtain rfl : j = 0 := (by omega); show World.cell? _ ⟨_, 0, none⟩ = some (.int .i64 x); (refine hg35.cell (cell_old (cell_at ?_)) ?_; (focus (simp <;> fail)); (focus (simp [Value.ownBlock] <;> fail))))); intro v41 w41 hown41 hg41 hb41; have hz41 := hb41.size; (try simp only [World.size_alloc, World.size_drew] at hz41); have hw41 : Below w5.heap.size w5 w41 := Below.trans (by repeat (first | with_reducible assumption | exact Below.refl _ _ | refine Below.drew ?_ | refine Below.alloc ?_ (by (try simp only [World.size_alloc, World.size_drew]); omega) _)) hb41) | (refine step_app rfl (.tmp 35) (.tmp 40) rfl w5.heap.size v35 ([] ++ S.take 0) (by simp [Act.eval, Act.put]) ?_ [x] ⟨(w5.heap.size + 1), 0, none⟩ 1 1 ?_ rfl ?_ (by rw [List.nil_append, List.length_take, HSL.out]; omega) (by (try simp only [World.size_alloc, World.size_drew]); omega) ?_; (focus (exact hown35)); (focus (simp [Act.eval, Act.put] <;> fail)); (focus (intro j hj; obtain rfl : j = 0 := (by omega); show World.cell? _ ⟨_, 0, none⟩ = some (.int .i64 x); (refine hg35.cell (cell_at ?_) ?_; (focus (simp <;> fail)); (focus (simp [Value.ownBlock] <;> fail))))); intro v41 w41 hown41 hg41 hb41; have hz41 := hb41.size; (try simp only [World.size_alloc, World.size_drew] at hz41); have hw41 : Below w5.heap.size w5 w41 := Below.trans (by repeat (first | with_reducible assumption | exact Below.refl _ _ | refine Below.drew ?_ | refine Below.alloc ?_ (by (try simp only [World.size_alloc, World.size_drew]); omega) _)) hb41) | (refine step_app rfl (.tmp 41) (.tmp 44) rfl w5.heap.size v41 ([] ++ S.take 0 ++ [x]) (by simp [Act.eval, Act.put] <;> fail) hown41 (S.drop 0) ⟨g, 0, none⟩ k cp (by simp [Act.eval, Act.put] <;> fail) (by simp [HSL.out]) (cells_drop (q := 0) HC5.out hw41 HSL.out) (by rw [List.nil_append, List.length_append, List.length_take, HSL.out]; simp only [List.length_singleton]; omega) (by (try simp only [World.size_alloc, World.size_drew]); omega) ?_; intro v45 w45 hown45 hg45 hb45; have hz45 := hb45.size; have hw45 : Below w5.heap.size w5 w45 := Below.trans hw41 hb45) | fail)
          all_goals
            have HK := Lib.hid (own_srt hz5 hown45 HFIN.out)
            have HL2 : Hid ((srt (xs.take (k + 1))).length = k + 1) := by show _ = _; rw [srt_len, List.length_take, HN.out]; omega
            have HF := Lib.hid (own_form HK.out HL2.out (by omega))
            have hb9 : Below w.heap.size w w45 := hb5.trans (hw45.mono hz5)
            clear hown45 hown41 hown35
            go_wp2
            go_roundw
            case rel => exact ⟨k + 1, by omega, by go_num, ⟨HK.out, HF.out⟩, hb9⟩
            case measure => simp [intOf]; omega
        | succ a =>
          have hy4 : wr.cell? ⟨g, a, none⟩ = some (.int .i64 (S.getD a 0)) := by rw [HW.out]; exact HCG.out a (by omega)
          obtain ⟨y, hy⟩ : ∃ y, y = S.getD a 0 := ⟨_, rfl⟩
          rw [← hy] at hy4
          have hi1 : (0 : Int) < ((a + 1 : Nat) : Int) := by omega
          have hi2 : ((a + 1 : Nat) : Int) - 1 = (a : Int) := by omega
          have hi3 : (a : Int) < k := by omega
          have hi4 : (0 : Int) ≤ (a : Int) := by omega
          rcases Int.lt_or_le x y with hxy | hxy
          · have HA2 : Hid (∀ j, a ≤ j → j < k → x < S.getD j 0) := by
              show ∀ j, _
              intro j h1 h2
              rcases Nat.lt_or_ge a j with h3 | h3
              · exact HA.out j h3 h2
              · obtain rfl : j = a := by omega
                rw [← hy]; exact hxy
            clear hy
            go_wp2
            go_quiet (fail)
            go_wp2
            go_roundw
            case rel => exact ⟨a, m + nq, by omega, by go_num, HA2, by rw [HW.out]; exact World.drewN_drewN _ _ _⟩
            case measure => simp [intOf]
          · have HFIN : Hid (srt (xs.take (k + 1)) = S.take (a + 1) ++ x :: S.drop (a + 1)) := by
              show _ = _
              rw [HTK.out]
              refine (HIN.out (a + 1) (by rw [HTL.out]; exact ha) (fun i hi => ?_) (fun i h1 h2 => HA.out i h1 (by rw [HTL.out] at h2; exact h2))).symm
              have h3 := HMO.out i a (by omega) (by rw [HTL.out]; omega)
              omega
            have hQ : a + 1 ≤ k := ha
            clear hy
            by_cases hcp : cp = a + 1
            · subst hcp
              go_wp2
              go_quiet (fail)
              go_wp2
              obtain ⟨w5, hw5⟩ : ∃ w5, w5 = wr.drewN nq := ⟨_, rfl⟩
              have HO5 : Hid (OwnV w5 w.heap.size (.slice (some ⟨g, 0, none⟩) k (a + 1)) S) := by rw [hw5, HW.out]; exact HOW.out
              have HC5 : Hid (∀ j, j < k → w5.cell? ⟨g, j, none⟩ = some (.int .i64 (S.getD j 0))) := by rw [hw5, HW.out]; exact HCG.out
              have hx5 : w5.cell? ⟨b, off + k, none⟩ = some (.int .i64 x) := by rw [hw5, HW.out]; exact hx
              have hb5 : Below w.heap.size w w5 := by rw [hw5, HW.out]; exact below_drewN (below_drewN hbel m) nq
              rw [← hw5]
              clear hw5 hx4
              have hz5 := hb5.size
              have hi5 : (0 : Int) ≤ ((a : Int) + 1) := by omega
              have hi6 : ((a : Int) + 1) ≤ (k : Int) := by omega
              have hi7 : ((a : Int) + 1) ≤ (((a + 1 : Nat)) : Int) := by omega
              go_region_held_law (fun w9 => w9.cell? ⟨b, off + k, none⟩ = some (.int .i64 x) ∧ Below w5.heap.size w5 w9) (first | with_reducible assumption | (refine keep_pair ?_ hx5; repeat (first | with_reducible assumption | exact Below.refl _ _ | refine Below.drew ?_ | refine Below.alloc ?_ (by (try simp only [World.size_alloc, World.size_drew]); omega) _))) (first | (refine step_app rfl (.tmp 31) (.tmp 34) rfl w5.heap.size (.slice (some ⟨w5.heap.size, 0, none⟩) 0 0) [] ?_ ?_ (S.take (a + 1)) ⟨g, 0, none⟩ (a + 1) (a + 1) (by simp [Act.eval, Act.put]) (by rw [List.length_take, HSL.out]; omega) (cells_take HC5.out (by repeat (first | with_reducible assumption | exact Below.refl _ _ | refine Below.drew ?_ | refine Below.alloc ?_ (by (try simp only [World.size_alloc, World.size_drew]); omega) _)) hQ HSL.out) (by simp <;> omega) (by (try simp only [World.size_alloc, World.size_drew]); omega) ?_; (focus (simp [Act.eval, Act.put] <;> fail)); (focus (first | (refine own_at ?_ ?_; (focus (simp <;> fail)); (focus omega)) | (refine OwnV.alloc (own_at ?_ ?_) _; (focus (simp <;> fail)); (focus omega)))); intro v35 w35 hown35 hg35 hb35; have hz35 := hb35.size; (try simp only [World.size_alloc, World.size_drew] at hz35); have hw35 : Below w5.heap.size w5 w35 := Below.trans (by repeat (first | with_reducible assumption | exact Below.refl _ _ | refine Below.drew ?_ | refine Below.alloc ?_ (by (try simp only [World.size_alloc, World.size_drew]); omega) _)) hb35) | (refine step_app rfl (.tmp 31) (.tmp 34) rfl w5.heap.size (.slice (some ⟨(w5.heap.size + 1), 0, none⟩) 0 0) [] ?_ ?_ (S.take (a + 1)) ⟨g, 0, none⟩ (a + 1) (a + 1) (by simp [Act.eval, Act.put]) (by rw [List.length_take, HSL.out]; omega) (cells_take HC5.out (by repeat (first | with_reducible assumption | exact Below.refl _ _ | refine Below.drew ?_ | refine Below.alloc ?_ (by (try simp only [World.size_alloc, World.size_drew]); omega) _)) hQ HSL.out) (by simp <;> omega) (by (try simp only [World.size_alloc, World.size_drew]); omega) ?_; (focus (simp [Act.eval, Act.put] <;> fail)); (focus (first | (refine own_at ?_ ?_; (focus (simp <;> fail)); (focus omega)) | (refine OwnV.alloc (own_at ?_ ?_) _; (focus (simp <;> fail)); (focus omega)))); intro v35 w35 hown35 hg35 hb35; have hz35 := hb35.size; (try simp only [World.size_alloc, World.size_drew] at hz35); have hw35 : Below w5.heap.size w5 w35 := Below.trans (by repeat (first | with_reducible assumption | exact Below.refl _ _ | refine Below.drew ?_ | refine Below.alloc ?_ (by (try simp only [World.size_alloc, World.size_drew]); omega) _)) hb35) | (refine step_app rfl (.tmp 35) (.tmp 40) rfl w5.heap.size v35 ([] ++ S.take (a + 1)) (by simp [Act.eval, Act.put]) ?_ [x] ⟨w35.heap.size, 0, none⟩ 1 1 ?_ rfl ?_ (by rw [List.nil_append, List.length_take, HSL.out]; omega) (by (try simp only [World.size_alloc, World.size_drew]); omega) ?_; (focus (exact OwnV.alloc hown35 _)); (focus (simp [Act.eval, Act.put] <;> fail)); (focus (intro j hj; obtain rfl : j = 0 := (by omega); show World.cell? _ ⟨_, 0, none⟩ = some (.int .i64 x); (exact cell_at rfl))); intro v41 w41 hown41 hg41 hb41; have hz41 := hb41.size; (try simp only [World.size_alloc, World.size_drew] at hz41); have hw41 : Below w5.heap.size w5 w41 := Below.trans (by repeat (first | with_reducible assumption | exact Below.refl _ _ | refine Below.drew ?_ | refine Below.alloc ?_ (by (try simp only [World.size_alloc, World.size_drew]); omega) _)) hb41) | (refine step_app rfl (.tmp 35) (.tmp 40) rfl w5.heap.size v35 ([] ++ S.take (a + 1)) (by simp [Act.eval, Act.put]) ?_ [x] ⟨w5.heap.size, 0, none⟩ 1 1 ?_ rfl ?_ (by rw [List.nil_append, List.length_take, HSL.out]; omega) (by (try simp only [World.size_alloc, World.size_drew]); omega) ?_; (focus (exact hown35)); (focus (simp [Act.eval, Act.put] <;> fail)); (focus (intro j hj; obtain rfl : j = 0 := (by omega); show World.cell? _ ⟨_, 0, none⟩ = some (.int .i64 x); (refine hg35.cell (cell_old (cell_at ?_)) ?_; (focus (simp <;> fail)); (focus (simp [Value.ownBlock] <;> fail))))); intro v41 w41 hown41 hg41 hb41; have hz41 := hb41.size; (try simp only [World.size_alloc, World.size_drew] at hz41); have hw41 : Below w5.heap.size w5 w41 := Below.trans (by repeat (first | with_reducible assumption | exact Below.refl _ _ | refine Below.drew ?_ | refine Below.alloc ?_ (by (try simp only [World.size_alloc, World.size_drew]); omega) _)) hb41) | (refine step_app rfl (.tmp 35) (.tmp 40) rfl w5.heap.size v35 ([] ++ S.take (a + 1)) (by simp [Act.eval, Act.put]) ?_ [x] ⟨(w5.heap.size + 1), 0, none⟩ 1 1 ?_ rfl ?_ (by rw [List.nil_append, List.length_take, HSL.out]; omega) (by (try simp only [World.size_alloc, World.size_drew]); omega) ?_; (focus (exact hown35)); (focus (simp [Act.eval, Act.put] <;> fail)); (focus (intro j hj; obtain rfl : j = 0 := (by omega); show World.cell? _ ⟨_, 0, none⟩ = some (.int .i64 x); (refine hg35.cell (cell_at ?_) ?_; (focus (simp <;> fail)); (focus (simp [Value.ownBlock] <;> fail))))); intro v41 w41 hown41 hg41 hb41; have hz41 := hb41.size; (try simp only [World.size_alloc, World.size_drew] at hz41); have hw41 : Below w5.heap.size w5 w41 := Below.trans (by repeat (first | with_reducible assumption | exact Below.refl _ _ | refine Below.drew ?_ | refine Below.alloc ?_ (by (try simp only [World.size_alloc, World.size_drew]); omega) _)) hb41) | (refine step_app rfl (.tmp 41) (.tmp 44) rfl w5.heap.size v41 ([] ++ S.take (a + 1) ++ [x]) (by simp [Act.eval, Act.put] <;> fail) hown41 (S.drop (a + 1)) ⟨g, 0, none⟩ 0 0 (by simp [Act.eval, Act.put] <;> fail) (by rw [List.length_drop, HSL.out]; omega) (fun j hj => absurd hj (by omega)) (by rw [List.nil_append, List.length_append, List.length_take, HSL.out]; simp only [List.length_singleton]; omega) (by (try simp only [World.size_alloc, World.size_drew]); omega) ?_; intro v45 w45 hown45 hg45 hb45; have hz45 := hb45.size; have hw45 : Below w5.heap.size w5 w45 := Below.trans hw41 hb45) | fail)
              all_goals
                have HK := Lib.hid (own_srt hz5 hown45 HFIN.out)
                have HL2 : Hid ((srt (xs.take (k + 1))).length = k + 1) := by show _ = _; rw [srt_len, List.length_take, HN.out]; omega
                have HF := Lib.hid (own_form HK.out HL2.out (by omega))
                have hb9 : Below w.heap.size w w45 := hb5.trans (hw45.mono hz5)
                clear hown45 hown41 hown35
                go_wp2
                go_roundw
                case rel => exact ⟨k + 1, by omega, by go_num, ⟨HK.out, HF.out⟩, hb9⟩
                case measure => simp [intOf]; omega
            · go_wp2
              go_quiet (fail)
              go_wp2
              obtain ⟨w5, hw5⟩ : ∃ w5, w5 = wr.drewN nq := ⟨_, rfl⟩
              have HO5 : Hid (OwnV w5 w.heap.size (.slice (some ⟨g, 0, none⟩) k cp) S) := by rw [hw5, HW.out]; exact HOW.out
              have HC5 : Hid (∀ j, j < k → w5.cell? ⟨g, j, none⟩ = some (.int .i64 (S.getD j 0))) := by rw [hw5, HW.out]; exact HCG.out
              have hx5 : w5.cell? ⟨b, off + k, none⟩ = some (.int .i64 x) := by rw [hw5, HW.out]; exact hx
              have hb5 : Below w.heap.size w w5 := by rw [hw5, HW.out]; exact below_drewN (below_drewN hbel m) nq
              rw [← hw5]
              clear hw5 hx4
              have hz5 := hb5.size
              have hi5 : (0 : Int) ≤ ((a : Int) + 1) := by omega
              have hi6 : ((a : Int) + 1) ≤ (k : Int) := by omega
              have hi7 : ((a : Int) + 1) ≤ (cp : Int) := by omega
              go_region_held_law (fun w9 => w9.cell? ⟨b, off + k, none⟩ = some (.int .i64 x) ∧ Below w5.heap.size w5 w9) (first | with_reducible assumption | (refine keep_pair ?_ hx5; repeat (first | with_reducible assumption | exact Below.refl _ _ | refine Below.drew ?_ | refine Below.alloc ?_ (by (try simp only [World.size_alloc, World.size_drew]); omega) _))) (first | (refine step_app rfl (.tmp 31) (.tmp 34) rfl w5.heap.size (.slice (some ⟨w5.heap.size, 0, none⟩) 0 0) [] ?_ ?_ (S.take (a + 1)) ⟨g, 0, none⟩ (a + 1) cp (by simp [Act.eval, Act.put]) (by rw [List.length_take, HSL.out]; omega) (cells_take HC5.out (by repeat (first | with_reducible assumption | exact Below.refl _ _ | refine Below.drew ?_ | refine Below.alloc ?_ (by (try simp only [World.size_alloc, World.size_drew]); omega) _)) hQ HSL.out) (by simp <;> omega) (by (try simp only [World.size_alloc, World.size_drew]); omega) ?_; (focus (simp [Act.eval, Act.put] <;> fail)); (focus (first | (refine own_at ?_ ?_; (focus (simp <;> fail)); (focus omega)) | (refine OwnV.alloc (own_at ?_ ?_) _; (focus (simp <;> fail)); (focus omega)))); intro v35 w35 hown35 hg35 hb35; have hz35 := hb35.size; (try simp only [World.size_alloc, World.size_drew] at hz35); have hw35 : Below w5.heap.size w5 w35 := Below.trans (by repeat (first | with_reducible assumption | exact Below.refl _ _ | refine Below.drew ?_ | refine Below.alloc ?_ (by (try simp only [World.size_alloc, World.size_drew]); omega) _)) hb35) | (refine step_app rfl (.tmp 31) (.tmp 34) rfl w5.heap.size (.slice (some ⟨(w5.heap.size + 1), 0, none⟩) 0 0) [] ?_ ?_ (S.take (a + 1)) ⟨g, 0, none⟩ (a + 1) cp (by simp [Act.eval, Act.put]) (by rw [List.length_take, HSL.out]; omega) (cells_take HC5.out (by repeat (first | with_reducible assumption | exact Below.refl _ _ | refine Below.drew ?_ | refine Below.alloc ?_ (by (try simp only [World.size_alloc, World.size_drew]); omega) _)) hQ HSL.out) (by simp <;> omega) (by (try simp only [World.size_alloc, World.size_drew]); omega) ?_; (focus (simp [Act.eval, Act.put] <;> fail)); (focus (first | (refine own_at ?_ ?_; (focus (simp <;> fail)); (focus omega)) | (refine OwnV.alloc (own_at ?_ ?_) _; (focus (simp <;> fail)); (focus omega)))); intro v35 w35 hown35 hg35 hb35; have hz35 := hb35.size; (try simp only [World.size_alloc, World.size_drew] at hz35); have hw35 : Below w5.heap.size w5 w35 := Below.trans (by repeat (first | with_reducible assumption | exact Below.refl _ _ | refine Below.drew ?_ | refine Below.alloc ?_ (by (try simp only [World.size_alloc, World.size_drew]); omega) _)) hb35) | (refine step_app rfl (.tmp 35) (.tmp 40) rfl w5.heap.size v35 ([] ++ S.take (a + 1)) (by simp [Act.eval, Act.put]) ?_ [x] ⟨w35.heap.size, 0, none⟩ 1 1 ?_ rfl ?_ (by rw [List.nil_append, List.length_take, HSL.out]; omega) (by (try simp only [World.size_alloc, World.size_drew]); omega) ?_; (focus (exact OwnV.alloc hown35 _)); (focus (simp [Act.eval, Act.put] <;> fail)); (focus (intro j hj; obtain rfl : j = 0 := (by omega); show World.cell? _ ⟨_, 0, none⟩ = some (.int .i64 x); (exact cell_at rfl))); intro v41 w41 hown41 hg41 hb41; have hz41 := hb41.size; (try simp only [World.size_alloc, World.size_drew] at hz41); have hw41 : Below w5.heap.size w5 w41 := Below.trans (by repeat (first | with_reducible assumption | exact Below.refl _ _ | refine Below.drew ?_ | refine Below.alloc ?_ (by (try simp only [World.size_alloc, World.size_drew]); omega) _)) hb41) | (refine step_app rfl (.tmp 35) (.tmp 40) rfl w5.heap.size v35 ([] ++ S.take (a + 1)) (by simp [Act.eval, Act.put]) ?_ [x] ⟨w5.heap.size, 0, none⟩ 1 1 ?_ rfl ?_ (by rw [List.nil_append, List.length_take, HSL.out]; omega) (by (try simp only [World.size_alloc, World.size_drew]); omega) ?_; (focus (exact hown35)); (focus (simp [Act.eval, Act.put] <;> fail)); (focus (intro j hj; obtain rfl : j = 0 := (by omega); show World.cell? _ ⟨_, 0, none⟩ = some (.int .i64 x); (refine hg35.cell (cell_old (cell_at ?_)) ?_; (focus (simp <;> fail)); (focus (simp [Value.ownBlock] <;> fail))))); intro v41 w41 hown41 hg41 hb41; have hz41 := hb41.size; (try simp only [World.size_alloc, World.size_drew] at hz41); have hw41 : Below w5.heap.size w5 w41 := Below.trans (by repeat (first | with_reducible assumption | exact Below.refl _ _ | refine Below.drew ?_ | refine Below.alloc ?_ (by (try simp only [World.size_alloc, World.size_drew]); omega) _)) hb41) | (refine step_app rfl (.tmp 35) (.tmp 40) rfl w5.heap.size v35 ([] ++ S.take (a + 1)) (by simp [Act.eval, Act.put]) ?_ [x] ⟨(w5.heap.size + 1), 0, none⟩ 1 1 ?_ rfl ?_ (by rw [List.nil_append, List.length_take, HSL.out]; omega) (by (try simp only [World.size_alloc, World.size_drew]); omega) ?_; (focus (exact hown35)); (focus (simp [Act.eval, Act.put] <;> fail)); (focus (intro j hj; obtain rfl : j = 0 := (by omega); show World.cell? _ ⟨_, 0, none⟩ = some (.int .i64 x); (refine hg35.cell (cell_at ?_) ?_; (focus (simp <;> fail)); (focus (simp [Value.ownBlock] <;> fail))))); intro v41 w41 hown41 hg41 hb41; have hz41 := hb41.size; (try simp only [World.size_alloc, World.size_drew] at hz41); have hw41 : Below w5.heap.size w5 w41 := Below.trans (by repeat (first | with_reducible assumption | exact Below.refl _ _ | refine Below.drew ?_ | refine Below.alloc ?_ (by (try simp only [World.size_alloc, World.size_drew]); omega) _)) hb41) | (refine step_app rfl (.tmp 41) (.tmp 44) rfl w5.heap.size v41 ([] ++ S.take (a + 1) ++ [x]) (by simp [Act.eval, Act.put] <;> fail) hown41 (S.drop (a + 1)) ⟨g, a + 1, none⟩ (k - (a + 1)) (cp - (a + 1)) (by simp [Act.eval, Act.put, hcp] <;> fail) (by simp [HSL.out]) (cells_drop (q := a + 1) HC5.out hw41 HSL.out) (by rw [List.nil_append, List.length_append, List.length_take, HSL.out]; simp only [List.length_singleton]; omega) (by (try simp only [World.size_alloc, World.size_drew]); omega) ?_; intro v45 w45 hown45 hg45 hb45; have hz45 := hb45.size; have hw45 : Below w5.heap.size w5 w45 := Below.trans hw41 hb45) | fail)
              all_goals
                have HK := Lib.hid (own_srt hz5 hown45 HFIN.out)
                have HL2 : Hid ((srt (xs.take (k + 1))).length = k + 1) := by show _ = _; rw [srt_len, List.length_take, HN.out]; omega
                have HF := Lib.hid (own_form HK.out HL2.out (by omega))
                have hb9 : Below w.heap.size w w45 := hb5.trans (hw45.mono hz5)
                clear hown45 hown41 hown35
                go_wp2
                go_roundw
                case rel => exact ⟨k + 1, by omega, by go_num, ⟨HK.out, HF.out⟩, hb9⟩
                case measure => simp [intOf]; omega
    · obtain rfl : k = n := by omega
      have HE : Hid (xs.take k = xs) := List.take_of_length_le (by rw [HN.out]; exact Nat.le_refl _)
      rw [HE.out] at HOW
      obtain ⟨A9, c9, e9, hR⟩ := HOW.out.R
      have HR9 := Lib.hid hR
      clear hR HOW HCG
      have E9 := Lib.hid e9; clear e9
      go_wp2
      rw [E9.out]
      go_ret
      exact ⟨A9, c9, rfl, HR9.out, hbel⟩
end Go.Proofs.Ytgfhmihnnjcagaa
