/- walks: copies, channels drawn -/
import Derived.Test.YtfmhbphbgdijpaaChM
import Derived.Laws.AppendOwn
import Derived.Laws.AppendOwnNone
import Derived.OwnWalk
import Derived.Outline
import Derived.Lib.SliceRun
set_option linter.unusedVariables false
set_option linter.unusedSimpArgs false
namespace Go.Proofs.Ytfmhbphbgdijpaa
open Go.RowKit

theorem app_ints {ops : Array Oper} {rest : List Oper} {o : Oper} {a : Act} {Q : Exit → Act → World → Prop} {w : World} (hgd : o.guard = Option.none) (s x : Operand)
    (ho : o.op = .call { callee := .builtin .append, args := #[s, x], argTypes := #[22, 22] }) (B : Nat) (v : Value) (ys : List Int) (hs : a.eval s = v) (hown : OwnV w B v ys)
    (zs : List Int) (b off p c : Nat) (hx : a.eval x = .slice (some ⟨b, off, Option.none⟩) p c) (hp : zs.length = p) (h0 : 0 < p) (hb : ∀ k, k < p → w.cell? ⟨b, off + k, Option.none⟩ = some (.int .i64 (zs.getD k 0))) (hl : ys.length + p ≤ 1099511627776) (hB : B ≤ w.heap.size)
    (h : ∀ g cap w', OwnV w' B (.slice (some ⟨g, 0, Option.none⟩) (ys.length + p) cap) (ys ++ zs) → Below B w w' → wpList Try.prog ops Q rest (a.put o.dst (.slice (some ⟨g, 0, Option.none⟩) (ys.length + p) cap)) w') :
    wpList Try.prog ops Q (o :: rest) a w := by
  obtain ⟨i0, hi, hz0, hz1, hz2⟩ := info_parts info_app
  refine wpList_append_lies w hgd s x 22 ho B 2 i0 (.int .i64 0) 1 8 Try.underlying22 hi hz0 hz1 hz2 rfl (by decide) v ys.length (ys.map (Value.int .i64)) hs hown ⟨b, off, Option.none⟩ p c (zs.map (Value.int .i64)) hx (by simp [hp]) ?_ ?_ h0 (by unfold maxLen; omega) (by omega) hB _ rfl ?_
  · intro j u hj
    have hjl : j < zs.length := by
      rcases Nat.lt_or_ge j zs.length with h | h
      · exact h
      · rw [List.getElem?_eq_none (by simp; omega)] at hj; cases hj
    have hu : u = .int .i64 (zs.getD j 0) := by
      rw [List.getElem?_map, getD_at hjl] at hj; simpa using hj.symm
    subst hu
    have e : (⟨b, off, Option.none⟩ : Addr).add j = ⟨b, off + j, Option.none⟩ := by unfold Addr.add; split <;> simp_all
    rw [e]; exact hb j (by omega)
  · intro u hu
    obtain ⟨x, _, rfl⟩ := List.mem_map.1 hu
    rfl
  · intro g cap w' h2 hg hat hlt
    refine h g cap w' ?_ ?_
    · show w'.ownsRow B 2 1 _ (ys ++ zs).length ((ys ++ zs).map (Value.int .i64))
      rw [List.length_append, List.map_append, hp]; exact h2
    · exact (Below.refl B w).grown hg hB (fun k hk => (World.ownsRow.lt hown k hk).1)
/-- the pulse of the first i bits -/
def CopyPost (xs : List Int) (w : World) (en : Ending) (w9 : World) : Prop := ∃ v : Value, en = .returned v ∧ OwnV w9 w.heap.size v xs ∧ Below w.heap.size w w9

set_option maxHeartbeats 2000000 in
set_option maxRecDepth 100000 in
theorem own_any (A : Option Addr) (n c : Nat) (xs : List Int) (w : World) (hn : xs.length = n) (hm : n ≤ 1048576) (hr : Rd w A xs) (hA : A = none → n = 0 ∧ c = 0) :
    Calls Try.prog 60 #[.slice A n c] w (CopyPost xs w) := by
  obtain ⟨i0, hi, hz0, hz1, hz2⟩ := info_parts info_app
  have q22 : ∀ (w : World) (a : Option Addr) (n c n' c' : Nat), Sem.run Try.prog (binOp .eql 22 (.slice a n c) (.slice none n' c')) w = .ok (.bool a.isNone) w := fun w a n c n' c' => Lib.run_eql_slice_nil w _ _ a n c n' c' Try.underlying22
  have HM : Hid ((w.alloc (.cells #[] 2)).ownsRow w.heap.size 2 1 (.slice (some ⟨w.heap.size, 0, none⟩) 0 0) 0 []) := World.ownsRow_made w #[] 0 (Nat.le_refl _) (Nat.zero_le _) rfl
  cases A with
  | none =>
    obtain ⟨rfl, rfl⟩ := hA rfl
    obtain rfl : xs = [] := List.eq_nil_of_length_eq_zero hn
    have HO := Lib.hid (OwnV.empty w w.heap.size (Nat.le_refl _))
    go_enter Try.func60, Try.ntmps60
    go_wp2_with (at_builtin; refine wpList_append_own_none rfl _ _ 22 rfl w.heap.size 2 i0 1 Try.underlying22 hi _ 0 [] rfl HO.out rfl ?_)
    go_ret
    exact ⟨_, rfl, HO.out, by go_grown⟩
  | some a =>
    rcases Nat.eq_zero_or_pos n with h0 | h0
    · subst h0
      obtain rfl : xs = [] := List.eq_nil_of_length_eq_zero hn
      go_enter Try.func60, Try.ntmps60
      go_wp2_with (at_builtin; refine wpList_append_own _ rfl _ _ 22 rfl w.heap.size 2 i0 (.int .i64 0) 1 8 Try.underlying22 hi hz0 hz1 hz2 rfl (by decide) _ 0 [] rfl HM.out a 0 c [] rfl rfl (by intro j u hj; simp at hj) (by intro u hu; cases hu) (by unfold maxLen; omega) (by omega) (by simp) ?_; intro v' w1 hown hgrow hnil)
      go_ret
      exact ⟨v', rfl, by show World.ownsRow _ _ _ _ _ _ _; simpa using hown, ((Below.refl _ w).alloc (Nat.le_refl _) _).grown hgrow (by simp) (fun k hk => (World.ownsRow.lt HM.out k hk).1)⟩
    · rcases hr with rfl | ⟨b, off, hA2, hc⟩
      · exfalso; simp at hn; omega
      · obtain rfl : a = ⟨b, off, none⟩ := by injection hA2
        have HO := Lib.hid (OwnV.empty w w.heap.size (Nat.le_refl _))
        have HC2 : Hid (∀ k, k < n → (w.alloc (.cells #[] 2)).cell? ⟨b, off + k, none⟩ = some (.int .i64 (xs.getD k 0))) := fun k hk => later (Below.alloc (Below.refl w.heap.size w) (Nat.le_refl _) _) (hc k (by omega))
        have HP := Lib.hid hn
        clear hc hn hA2 hA
        go_enter Try.func60, Try.ntmps60
        go_wp2_with (at_builtin; refine app_ints rfl _ _ rfl w.heap.size _ [] rfl HO.out xs b off n c rfl HP.out h0 HC2.out (by simp; omega) (by simp) ?_; intro g cap w2 hown2 hb2)
        have H2 : Hid (OwnV w2 w.heap.size (.slice (some ⟨g, 0, none⟩) n cap) xs) := by show OwnV _ _ _ _; simpa using hown2
        have hB : Below w.heap.size w w2 := ((Below.refl w.heap.size w).alloc (Nat.le_refl _) _).trans hb2
        clear hown2 hb2
        go_ret
        exact ⟨_, rfl, H2.out, hB⟩
set_option maxRecDepth 100000 in
set_option maxHeartbeats 8000000 in
theorem dChan_any (s : Nat) (w : World) (h : Src w s) : Calls Try.prog 58 #[.pointer (some ⟨s, 0, none⟩)] w (ChPost s w) := by
  have ls0 := h.lt
  go_enter Try.func58, Try.ntmps58
  have HC0 := Lib.hid (ChM.empty s w w.heap.size (Nat.le_refl _))
  go_wp2_with fail
  refine (next_any s _ _ (by repeat (first | with_reducible exact h | with_reducible refine Src.alloc ?_ _))).mono ?_
  rintro en w1 ⟨x, rfl, x0, xb, hs, hg⟩
  have HS1 := Lib.hid hs
  have HG1 : Hid (Gs s w w1) := Gs.trans (by repeat (first | with_reducible exact (Gs.refl s w) | with_reducible refine Gs.alloc ?_ _)) hg
  have hz1 : w.heap.size ≤ w1.heap.size := HG1.out.size
  have lq1 : s < w1.heap.size := HS1.out.lt
  have HC1 : Hid (ChM s w1 w.heap.size (.slice (some ⟨w.heap.size, 0, none⟩) 0 0) ([])) := ChM.gs (by repeat (first | with_reducible exact HC0.out | with_reducible refine ChM.alloc ?_ _)) hg ls0
  clear hs hg
  go_wp2_with fail
  refine (next_any s _ _ (by repeat (first | with_reducible exact HS1.out | with_reducible refine Src.alloc ?_ _))).mono ?_
  rintro en w2 ⟨y, rfl, y0, yb, hs, hg⟩
  have HS2 := Lib.hid hs
  have HG2 : Hid (Gs s w w2) := Gs.trans (by repeat (first | with_reducible exact HG1.out | with_reducible refine Gs.alloc ?_ _)) hg
  have hz2 : w.heap.size ≤ w2.heap.size := HG2.out.size
  have lq2 : s < w2.heap.size := HS2.out.lt
  have HC2 : Hid (ChM s w2 w.heap.size (.slice (some ⟨w.heap.size, 0, none⟩) 0 0) ([])) := ChM.gs (by repeat (first | with_reducible exact HC1.out | with_reducible refine ChM.alloc ?_ _)) hg ls0
  clear hs hg
  have hxy : x ≤ 11 ∧ y ≤ 3 := by omega
  
  go_wp2
  go_loopw [3, 5] (fun v i wr => ∃ (j : Nat) (rows : List (List Int)), i = .int .i64 (j : Int) ∧ rows.length + j ≤ 4 ∧ Hid (ChM s wr w.heap.size v rows) ∧ w.heap.size ≤ wr.heap.size ∧ Hid (Src wr s) ∧ Hid (Gs s w wr)) (fun _ i _ => (intOf i).toNat)
  case atStart => exact ⟨(1 + y).toNat, [], by congr 1; omega, by simp; omega, HC2, hz2, HS2, HG2⟩
  case round =>
    obtain ⟨j, rows, rfl, hl, HCH, hz, HR, HH⟩ := hrel
    have hlq := HR.out.lt
    cases j with
    | zero =>
      go_wp2_with fail
      refine (next_any s _ _ (by repeat (first | with_reducible exact HR.out | with_reducible refine Src.alloc ?_ _))).mono ?_
      rintro en w21 ⟨k, rfl, k0, kb, hs, hg⟩
      have HS21 := Lib.hid hs
      have HG21 : Hid (Gs s w w21) := Gs.trans (by repeat (first | with_reducible exact HH.out | with_reducible refine Gs.alloc ?_ _)) hg
      have hz21 : w.heap.size ≤ w21.heap.size := HG21.out.size
      have lq21 : s < w21.heap.size := HS21.out.lt
      have HC21 : Hid (ChM s w21 w.heap.size (u3) (rows)) := ChM.gs (by repeat (first | with_reducible exact HCH.out | with_reducible refine ChM.alloc ?_ _)) hg ls0
      clear hs hg
      by_cases e0 : k = 0
      · have f0 : (k == 0) = true := by simpa using e0
        clear e0
        obtain ⟨kz, hkz⟩ : ∃ kz : Nat, (kz : Int) = x + 1 := ⟨(x + 1).toNat, by omega⟩
        have hk4 : kz ≤ 500 := by omega
        have hmk := mk_ints kz (by omega)
        rw [hkz] at hmk
        have HMK := Lib.hid hmk
        clear hmk
        have HOZ := Lib.hid (own_zeros w21 w21.heap.size kz hk4 (Nat.le_refl _))
        obtain ⟨vals0, how0, _, _⟩ := HC21.out
        obtain ⟨A50, m50, c50, e50, hrow⟩ := OwnV.row HOZ.out lq21 how0 (Nat.le_refl _) (by simp; omega)
        cases e50
        have hch := ChM.alloc (ChM.alloc HC21.out (.cells (zeros kz) 2)) (.cells #[.slice (some ⟨w21.heap.size, 0, none⟩) kz kz] 22)
        obtain ⟨vals, how, hvl, hvv⟩ := hch
        have hrow2 := Row.alloc hrow (.cells #[.slice (some ⟨w21.heap.size, 0, none⟩) kz kz] 22)
        have hsr := Src.alloc (Src.alloc HS21.out (.cells (zeros kz) 2)) (.cells #[.slice (some ⟨w21.heap.size, 0, none⟩) kz kz] 22)
        have hgr := Gs.alloc (Gs.alloc HG21.out (.cells (zeros kz) 2)) (.cells #[.slice (some ⟨w21.heap.size, 0, none⟩) kz kz] 22)
        have hszz : w.heap.size ≤ (World.alloc (w21.alloc (.cells (zeros kz) 2)) (.cells #[.slice (some ⟨w21.heap.size, 0, none⟩) kz kz] 22)).heap.size := hgr.size
        have HVL := Lib.hid hvl
        have HVV := Lib.hid hvv
        have HOW := Lib.hid how
        have HRO := Lib.hid hrow2
        have HSR := Lib.hid hsr
        have HGR := Lib.hid hgr
        have HSZ := Lib.hid hszz
        clear hvl hvv how hrow hrow2 hsr hgr how0 hszz
        have hmk := HMK.out
        clear hkz
        go_wp2_with (at_builtin; refine app_sl rfl _ _ rfl w.heap.size _ (rows).length vals rfl HOW.out (some ⟨w21.heap.size, 0, none⟩) kz kz _ rfl (cell_sl2 (by first | rfl | (simp only [World.size_alloc]; done) | simp)) (by omega) HSZ.out ?_; intro g50 cap50 w50 hown hg hat)
        clear hmk
        have hbb := (Below.refl w.heap.size _).grown hg HSZ.out (fun k hk => (World.ownsRow.lt HOW.out k hk).1)
        have HCN := Lib.hid (ChM.app HVL.out HVV.out HRO.out rfl hown hg hat)
        have HSN := Lib.hid (Src.low HSR.out hbb ls0)
        have HGN := Lib.hid (Gs.then HGR.out hbb)
        clear hown hg hat hbb HVL HVV HRO HSR HGR HOW HSZ
        go_wp2
        go_ret
        exact ⟨_, rows ++ [List.replicate kz 0], rfl, HCN.out, by simp only [List.length_append, List.length_singleton]; omega, HSN.out, HGN.out⟩
      · have f0 : (k == 0) = false := by simpa using e0
        clear e0
        by_cases e1 : k = 1
        · have f1 : (k == 1) = true := by simpa using e1
          clear e1
          have HC21k := Lib.hid HC21.out
          go_wp2_with fail
          refine (d09_any s _ (by repeat (first | with_reducible exact HS21.out | with_reducible refine Src.alloc ?_ _))).mono ?_
          rintro en w22 ⟨qv, qs, rfl, hown, qslen, hs, hg⟩
          have HS22 := Lib.hid hs
          have HG22 : Hid (Gs s w w22) := Gs.trans (by repeat (first | with_reducible exact HG21.out | with_reducible refine Gs.alloc ?_ _)) hg
          have hz22 : w.heap.size ≤ w22.heap.size := HG22.out.size
          have lq22 : s < w22.heap.size := HS22.out.lt
          have HC22 : Hid (ChM s w22 w.heap.size (u3) (rows)) := ChM.gs (by repeat (first | with_reducible exact HC21.out | with_reducible refine ChM.alloc ?_ _)) hg ls0
          have HO22_0 := Lib.hid hown
          clear hs hg hown
          obtain ⟨vals0, how0, _, _⟩ := HC21k.out
          obtain ⟨A50, m50, c50, e50, hrow⟩ := OwnV.row HO22_0.out lq21 how0 (Nat.le_refl _) (by omega)
          cases e50
          have hch := ChM.alloc HC22.out (.cells #[.slice A50 m50 c50] 22)
          obtain ⟨vals, how, hvl, hvv⟩ := hch
          have hrow2 := Row.alloc hrow (.cells #[.slice A50 m50 c50] 22)
          have hsr := Src.alloc HS22.out (.cells #[.slice A50 m50 c50] 22)
          have hgr := Gs.alloc HG22.out (.cells #[.slice A50 m50 c50] 22)
          have hszz : w.heap.size ≤ (World.alloc w22 (.cells #[.slice A50 m50 c50] 22)).heap.size := hgr.size
          have HVL := Lib.hid hvl
          have HVV := Lib.hid hvv
          have HOW := Lib.hid how
          have HRO := Lib.hid hrow2
          have HSR := Lib.hid hsr
          have HGR := Lib.hid hgr
          have HSZ := Lib.hid hszz
          clear hvl hvv how hrow hrow2 hsr hgr how0 hszz
          go_wp2_with (at_builtin; refine app_sl rfl _ _ rfl w.heap.size _ (rows).length vals rfl HOW.out A50 m50 c50 _ rfl (cell_sl2 (by first | rfl | (simp only [World.size_alloc]; done) | simp)) (by omega) HSZ.out ?_; intro g50 cap50 w50 hown hg hat)
          have hbb := (Below.refl w.heap.size _).grown hg HSZ.out (fun k hk => (World.ownsRow.lt HOW.out k hk).1)
          have HCN := Lib.hid (ChM.app HVL.out HVV.out HRO.out rfl hown hg hat)
          have HSN := Lib.hid (Src.low HSR.out hbb ls0)
          have HGN := Lib.hid (Gs.then HGR.out hbb)
          clear hown hg hat hbb HVL HVV HRO HSR HGR HOW HSZ
          go_wp2
          go_ret
          exact ⟨_, rows ++ [qs], rfl, HCN.out, by simp only [List.length_append, List.length_singleton]; omega, HSN.out, HGN.out⟩
        · have f1 : (k == 1) = false := by simpa using e1
          clear e1
          by_cases e2 : k = 2
          · have f2 : (k == 2) = true := by simpa using e2
            clear e2
            go_wp2
            go_ret
            exact ⟨_, [], rfl, ChM.nil _ _ _, Nat.zero_le _, (by repeat (first | with_reducible exact HS21.out | with_reducible refine Src.alloc ?_ _)), (by repeat (first | with_reducible exact HG21.out | with_reducible refine Gs.alloc ?_ _))⟩
          · have f2 : (k == 2) = false := by simpa using e2
            clear e2
            go_wp2
            go_ret
            exact ⟨_, rows, rfl, HC21.out, by omega, (by repeat (first | with_reducible exact HS21.out | with_reducible refine Src.alloc ?_ _)), (by repeat (first | with_reducible exact HG21.out | with_reducible refine Gs.alloc ?_ _))⟩
    | succ j =>
      obtain ⟨jj, hjj⟩ : ∃ jj : Nat, jj = j + 1 := ⟨_, rfl⟩
      have hl2 : rows.length + j + 1 ≤ 4 := by omega
      rw [← hjj] at hl ⊢
      have HJJ := Lib.hid hjj
      have hj : (0 : Int) < (jj : Int) := by omega
      have hjn : 0 < jj := by omega
      have hjd : decide (0 < jj) = true := decide_eq_true hjn
      have hjb : (jj : Int) ≤ 4 := by omega
      clear hjj hl
      obtain ⟨wo, hwo⟩ : ∃ wo : World, wo = wr := ⟨_, rfl⟩
      subst hwo
      have lso : s < wo.heap.size := hlq
      have HO0 := Lib.hid (OwnV.empty wo wo.heap.size (Nat.le_refl _))
      have HR0 := Lib.hid (Src.alloc HR.out (.cells #[] 2))
      have HH0 := Lib.hid (Gs.alloc (Gs.refl s wo) (.cells #[] 2))
      go_wp2
      go_loopw [6, 7] (fun u i wv => ∃ (k : Nat) (xs : List Int), i = .int .i64 (k : Int) ∧ (k : Int) ≤ x ∧ Hid (xs.length = k) ∧ Hid (OwnV wv wo.heap.size u xs) ∧ Hid (Src wv s) ∧ Hid (Gs s wo wv)) (fun _ i _ => x.toNat - (intOf i).toNat)
      case atStart => exact ⟨0, [], rfl, x0, rfl, HO0, HR0, HH0⟩
      case round =>
        clear HO0 HR0 HH0
        obtain ⟨k, xs, rfl, hkx, HL2, HV2, HR2, HH2⟩ := hrel
        have hxl : xs.length ≤ 11 := by rw [HL2.out]; omega
        have hz : wo.heap.size ≤ wr.heap.size := HH2.out.size
        have hlq := HR2.out.lt
        by_cases hkn : (k : Int) < x
        · go_wp2_with fail
          refine (next_any s _ _ (by repeat (first | with_reducible exact HR2.out | with_reducible refine Src.alloc ?_ _))).mono ?_
          rintro en w11 ⟨z, rfl, z0, zb, hs, hg⟩
          have HS11 := Lib.hid hs
          have HG11 : Hid (Gs s wo w11) := Gs.trans (by repeat (first | with_reducible exact HH2.out | with_reducible refine Gs.alloc ?_ _)) hg
          have HO11_0 : Hid (OwnV w11 wo.heap.size (u6) (xs)) := OwnV.gs (by repeat (first | with_reducible exact HV2.out | with_reducible refine OwnV.alloc ?_ _)) hg lso
          have hz11 : wo.heap.size ≤ w11.heap.size := HG11.out.size
          have lq11 : s < w11.heap.size := HS11.out.lt
          clear hs hg
          go_wp2_with (at_builtin; refine app_int rfl _ _ rfl wo.heap.size (u6) (xs) rfl (OwnV.alloc (by repeat (first | with_reducible exact HO11_0.out | with_reducible refine OwnV.alloc ?_ _)) _) ((z - 20)) _ rfl (cell_new1 _ _) (by omega) (by simp only [World.size_alloc]; omega) ?_; intro g12 cap12 w12 hown hb)
          have HS12 := Lib.hid (Src.low (Src.alloc (by repeat (first | with_reducible exact HS11.out | with_reducible refine Src.alloc ?_ _)) _) hb lso)
          have HG12 : Hid (Gs s wo w12) := Gs.then (Gs.alloc (by repeat (first | with_reducible exact HG11.out | with_reducible refine Gs.alloc ?_ _)) _) hb
          have HO12_0 : Hid (OwnV w12 wo.heap.size (.slice (some ⟨g12, 0, none⟩) ((xs).length + 1) cap12) (xs ++ [(z - 20)])) := hown
          have hz12 : wo.heap.size ≤ w12.heap.size := HG12.out.size
          have lq12 : s < w12.heap.size := HS12.out.lt
          clear hown hb
          go_roundw
          case rel => exact ⟨k + 1, xs ++ [z - 20], by go_num, by omega, by show _ = _; (rw [List.length_append, HL2.out]; rfl), HO12_0, HS12, HG12⟩
          case measure => simp [intOf]; omega
        · obtain ⟨vals0, how0, _, _⟩ := HCH.out
          obtain ⟨A40, m40, c40, e40, hrow⟩ := OwnV.row HV2.out lso how0 (Nat.le_refl _) (by rw [HL2.out]; omega)
          cases e40
          have hch := ChM.alloc (ChM.gs HCH.out HH2.out ls0) (.cells #[.slice A40 m40 c40] 22)
          obtain ⟨vals, how, hvl, hvv⟩ := hch
          have hrow2 := Row.alloc hrow (.cells #[.slice A40 m40 c40] 22)
          have hsr := Src.alloc HR2.out (.cells #[.slice A40 m40 c40] 22)
          have hgr := Gs.alloc (Gs.trans HH.out HH2.out) (.cells #[.slice A40 m40 c40] 22)
          have hszz : w.heap.size ≤ (World.alloc wr (.cells #[.slice A40 m40 c40] 22)).heap.size := hgr.size
          have HVL := Lib.hid hvl
          have HVV := Lib.hid hvv
          have HOW := Lib.hid how
          have HRO := Lib.hid hrow2
          have HSR := Lib.hid hsr
          have HGR := Lib.hid hgr
          have HSZ := Lib.hid hszz
          clear hvl hvv how hrow hrow2 hsr hgr how0 hszz
          go_wp2_with (at_builtin; refine app_sl rfl _ _ rfl w.heap.size _ (rows).length vals rfl HOW.out A40 m40 c40 _ rfl (cell_sl2 (by first | rfl | (simp only [World.size_alloc]; done) | simp)) (by omega) HSZ.out ?_; intro g40 cap40 w40 hown hg hat)
          have hbb := (Below.refl w.heap.size _).grown hg HSZ.out (fun k hk => (World.ownsRow.lt HOW.out k hk).1)
          have HCN := Lib.hid (ChM.app HVL.out HVV.out HRO.out rfl hown hg hat)
          have HSN := Lib.hid (Src.low HSR.out hbb ls0)
          have HGN := Lib.hid (Gs.then HGR.out hbb)
          clear hown hg hat hbb HVL HVV HRO HSR HGR HOW HSZ
          go_roundw
          case rel => exact ⟨j, rows ++ [xs], by have h9 := HJJ.out; congr 1; omega, by simp only [List.length_append, List.length_singleton]; omega, HCN, HGN.out.size, HSN, HGN⟩
          case measure => simp [intOf]; omega
end Go.Proofs.Ytfmhbphbgdijpaa
