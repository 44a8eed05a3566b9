/- walks: PulseOfBits -/
import Derived.Test.YtgfhmihnnjcagaaOwn
import Derived.Test.YtgfhmihnnjcagaaW5
import Derived.Shelf.Bits.Mul64
import Derived.Laws.CopyOwn
import Derived.Deep.RegionLaw
set_option linter.unusedVariables false
set_option linter.unusedSimpArgs false
namespace Go.Proofs.Ytgfhmihnnjcagaa
open Go.RowKit

set_option maxHeartbeats 1000000 in
/-- the product of two words, its upper and its lower half -/
theorem mul64_any (x y : Nat) (hx : x < 18446744073709551616) (hy : y < 18446744073709551616) (w : World) :
    Calls Try.prog 143 #[.int .u64 x, .int .u64 y] w fun en w9 => en = .returned (.tuple #[.int .u64 ((x * y / 18446744073709551616 : Nat) : Int), .int .u64 ((x * y % 18446744073709551616 : Nat) : Int)]) ∧ w = w9 := by
  obtain ⟨bd, bt, bw, hhi⟩ := Lib.mul64_hi x y hx hy
  have ba := Lib.half_mul_le (a := x / 4294967296) (b := y / 4294967296) (by omega) (by omega)
  have bb := Lib.half_mul_le (a := x / 4294967296) (b := y % 4294967296) (by omega) (by omega)
  have bc := Lib.half_mul_le (a := x % 4294967296) (b := y / 4294967296) (by omega) (by omega)
  have ba' : x / 4294967296 * (y / 4294967296) < 18446744073709551616 := by omega
  have bb' : x / 4294967296 * (y % 4294967296) < 18446744073709551616 := by omega
  have bc' : x % 4294967296 * (y / 4294967296) < 18446744073709551616 := by omega
  have bh1 : x / 4294967296 * (y / 4294967296) + (x / 4294967296 * (y % 4294967296) + x % 4294967296 * (y % 4294967296) / 4294967296) / 4294967296 < 18446744073709551616 := by omega
  have bh : x / 4294967296 * (y / 4294967296) + (x / 4294967296 * (y % 4294967296) + x % 4294967296 * (y % 4294967296) / 4294967296) / 4294967296 + ((x / 4294967296 * (y % 4294967296) + x % 4294967296 * (y % 4294967296) / 4294967296) % 4294967296 + x % 4294967296 * (y / 4294967296)) / 4294967296 < 18446744073709551616 := by omega
  go_enter Try.func143, Try.ntmps143
  go_wp2
  simp only [Mul64.maskN x hx, Mul64.maskN y hy, Mul64.divN, Mul64.mulN, Mul64.addN, Mul64.wrapN _ bd, Mul64.wrapN _ bb', Mul64.wrapN _ bt, Mul64.maskN _ bt, Mul64.wrapN _ bc', Mul64.wrapN _ bw, Mul64.wrapN _ ba', Mul64.wrapN _ bh1, Mul64.wrapN _ bh, Mul64.wrapM (x * y)]
  rw [hhi]
  go_ret2
  exact ⟨rfl, rfl⟩
theorem mul_any (y : Nat) (hy : y ≤ 1000) (w : World) :
    Calls Try.prog 135 #[.int .u64 1, .int .u64 y] w fun en w9 => en = .returned (.tuple #[.int .u64 0, .int .u64 y]) ∧ w = w9 := by
  have h := mul64_any 1 y (by omega) (by omega) w
  have e1 : 1 * y / 18446744073709551616 = 0 := by omega
  have e2 : 1 * y % 18446744073709551616 = y := by omega
  rw [e1, e2] at h
  have H := Lib.hid h; clear h e1 e2
  go_enter Try.func135, Try.ntmps135
  go_wp2_with (first | (go_at_call 143; refine H.out.mono ?_; rintro en w1 ⟨rfl, rfl⟩))
  go_ret2
  exact ⟨rfl, rfl⟩
/-- n times z, zeros up to k -/
def rowz (z : Int) (n k : Nat) : List Value := List.replicate n (Value.int .i64 z) ++ List.replicate (k - n) (Value.int .i64 0)
theorem rowz_len {z : Int} {n k : Nat} (h : n ≤ k) : (rowz z n k).length = k := by simp [rowz]; omega
theorem rowz_at {z : Int} {n k j : Nat} (h : j < n) : (rowz z n k)[j]? = some (.int .i64 z) := by simp [rowz, List.getElem?_append, h]
theorem rowz_up {z : Int} {n m k : Nat} (h : n + m ≤ k) : splice (rowz z n k) n (List.replicate m (Value.int .i64 z)) = rowz z (n + m) k := by
  unfold splice rowz
  rw [List.take_left' (by simp), List.drop_append]
  simp only [List.length_replicate, List.drop_replicate]
  rw [show n - (n + m) = 0 by omega, List.replicate_zero, List.nil_append, ← List.append_assoc, List.replicate_append_replicate]
  congr 2; omega
theorem rowz_zero (z : Int) (k : Nat) : rowz z 0 k = List.replicate k (Value.int .i64 0) := by simp [rowz]
theorem cell_row {w : World} {g : Nat} {t : TypeId} {L : List Value} {j : Nat} {v : Value} (h : w.heap[g]? = some (.cells L.toArray t (0, 0))) (hv : L[j]? = some v) : w.cell? ⟨g, j, none⟩ = some v := by
  unfold World.cell?; rw [h]; simpa using hv
theorem World.block_lt_of_heap {w : World} {g : Nat} {o : Obj} (h : w.heap[g]? = some o) : g + 1 ≤ w.heap.size := (Array.getElem?_eq_some_iff.1 h).1
set_option maxRecDepth 100000 in
set_option maxHeartbeats 4000000 in
theorem rep_any (b : Nat) (z : Int) (k : Nat) (w : World) (h1 : 1 ≤ k) (hk : k ≤ 400) (hc : w.cell? ⟨b, 0, none⟩ = some (.int .i64 z)) :
    Calls Try.prog 121 #[.slice (some ⟨b, 0, none⟩) 1 1, .int .i64 k] w fun en w9 => en = .returned (.slice (some ⟨w.heap.size, 0, none⟩) k k) ∧ w.heap.size + 1 ≤ w9.heap.size ∧ (∀ j, j < k → w9.cell? ⟨w.heap.size, j, none⟩ = some (.int .i64 z)) ∧ Below w.heap.size w w9 := by
  have hmk := mk_ints k (by omega)
  have hc2 := later (Below.alloc (Below.refl w.heap.size w) (Nat.le_refl _) (.cells (zeros k) 2)) hc
  have HC := Lib.hid hc2; clear hc2 hc
  have hlo : ¬ (9223372036854775807 : Int) < k := by omega
  have HG0 : Hid ((w.alloc (.cells (zeros k) 2)).heap[w.heap.size]? = some (.cells (List.replicate k (Value.int .i64 0)).toArray 2 (0, 0))) := heap_alloc_new w _
  have HQ1 : Hid ([Value.int .i64 z].length = Nat.min 1 k) := by show 1 = min 1 k; omega
  have HQ2 : Hid (∀ j v, [Value.int .i64 z][j]? = some v → (w.alloc (.cells (zeros k) 2)).cell? ((⟨b, 0, none⟩ : Addr).add j) = some v) := by
    show ∀ j v, _
    intro j v hj
    match j, hj with
    | 0, hj => simp at hj; subst hj; exact HC.out
    | j + 1, hj => simp at hj
  have HQ3 : Hid (0 + [Value.int .i64 z].length ≤ (List.replicate k (Value.int .i64 0)).length) := by show 0 + 1 ≤ _; rw [List.length_replicate]; omega
  have HQ4 : Hid (∀ v ∈ [Value.int .i64 z], v.oneCell' = true) := by show ∀ v ∈ _, _; intro v hv; simp at hv; subst hv; rfl
  have HQ5 : Hid (Below w.heap.size w (w.alloc (.cells (zeros k) 2))) := Below.alloc (Below.refl w.heap.size w) (Nat.le_refl _) _
  go_enter Try.func121, Try.ntmps121
  go_wp2_with (first | (go_at_call 135; refine (mul_any k (by omega) _).mono ?_; rintro en w1 ⟨rfl, rfl⟩) | (with_reducible refine wpList_copy_splice rfl (.tmp 31) (.tmp 32) 22 22 rfl 2 Try.underlying22 (by kernel_rfl) (some ⟨w.heap.size, 0, none⟩) (some ⟨b, 0, none⟩) k k 1 1 rfl rfl w.heap.size 0 (List.replicate k (Value.int .i64 0)) 2 HG0.out [Value.int .i64 z] HQ1.out (fun _ => ⟨rfl, _, rfl, HQ2.out⟩) HQ3.out HQ4.out w.heap.size w HQ5.out (Nat.le_refl _) ?_; intro w2 HG2 hB2))
  go_loopw [8] (fun i wr => ∃ n : Nat, 1 ≤ n ∧ n ≤ k ∧ i = .int .i64 (n : Int) ∧ Hid (wr.heap[w.heap.size]? = some (.cells (rowz z n k).toArray 2 (0, 0))) ∧ w.heap.size + 1 ≤ wr.heap.size ∧ Below w.heap.size w wr) (fun i _ => k - (intOf i).toNat)
  case atStart => exact ⟨1, Nat.le_refl _, h1, rfl, by show _ = _; rw [HG2.out, ← rowz_zero z, ← rowz_up (n := 0) (m := 1) (by omega)]; rfl, (World.block_lt_of_heap HG2.out), hB2⟩
  case round =>
    obtain ⟨n, hn1, hn, rfl, HG, hsz, hbel⟩ := hrel
    by_cases hlt : n < k
    · obtain ⟨m, hm⟩ : ∃ m, m = min n (k - n) := ⟨_, rfl⟩
      have hm0 : 1 ≤ m := by omega
      have hm2 : n + m ≤ k := by omega
      have hi0 : (n : Int) < k := by omega
      have HM : Hid ((List.replicate m (Value.int .i64 z)).length = Nat.min n (k - n)) := by show _ = _; rw [List.length_replicate]; exact hm
      have HR : Hid (∀ j v, (List.replicate m (Value.int .i64 z))[j]? = some v → wr.cell? ((⟨w.heap.size, 0, none⟩ : Addr).add j) = some v) := by
        show ∀ j v, _
        intro j v hj
        have hj2 : j < m := by
          rcases Nat.lt_or_ge j m with h | h
          · exact h
          · rw [List.getElem?_eq_none (by simp; omega)] at hj; cases hj
        rw [List.getElem?_replicate, if_pos hj2] at hj
        have e : (⟨w.heap.size, 0, none⟩ : Addr).add j = ⟨w.heap.size, j, none⟩ := by unfold Addr.add; split <;> simp_all
        rw [e, ← hj]
        exact cell_row HG.out (rowz_at (by omega))
      have HU : Hid (splice (rowz z n k) n (List.replicate m (Value.int .i64 z)) = rowz z (n + m) k) := rowz_up hm2
      have HL : Hid (n + (List.replicate m (Value.int .i64 z)).length ≤ (rowz z n k).length) := by show _ ≤ _; rw [List.length_replicate, rowz_len hn]; exact hm2
      have HO : Hid (∀ v ∈ List.replicate m (Value.int .i64 z), v.oneCell' = true) := by show ∀ v ∈ _, _; intro v hv; rw [List.eq_of_mem_replicate hv]; rfl
      clear hm
      go_wp2
      go_region_law (refine step_copy_splice rfl (.tmp 41) (.tmp 44) 22 22 rfl 2 Try.underlying22 (by kernel_rfl) (some ⟨w.heap.size, n, none⟩) (some ⟨w.heap.size, 0, none⟩) (k - n) (k - n) n k (by simp [Act.eval, Act.put]; omega) (by simp [Act.eval, Act.put]) w.heap.size n (rowz z n k) 2 HG.out (List.replicate m (Value.int .i64 z)) HM.out (fun _ => ⟨rfl, _, rfl, HR.out⟩) HL.out HO.out w.heap.size w (Below.drew hbel) (Nat.le_refl _) ?_; intro w4 hg4 hb4)
      all_goals go_wp2
      have HG4 : Hid (w4.heap[w.heap.size]? = some (.cells (rowz z (n + m) k).toArray 2 (0, 0))) := by show _ = _; rw [hg4.out, HU.out]
      have hz4 := World.block_lt_of_heap HG4.out
      have hw : IntKind.i64.wrap ((n : Int) + m) = (n : Int) + m := IntWalk.i64_in _ (by omega)
      go_roundw
      case rel => exact ⟨n + m, by omega, hm2, by rw [hw]; omega, HG4, hz4⟩
      case measure => rw [hw]; simp [intOf]; omega
    · obtain rfl : n = k := by omega
      go_wp2
      go_ret
      exact ⟨rfl, hsz, fun j hj => cell_row HG.out (rowz_at hj), hbel⟩

/-- 'append' of a list of numbers to a slice of one's own -/
theorem app_ints {ops : Array Oper} {rest : List Oper} {o : Oper} {a : Act} {Q : Exit → Act → World → Prop} {w : World} (hgd : o.guard = Option.none) (s x : Operand)
    (ho : o.op = .call { callee := .builtin .append, args := #[s, x], argTypes := #[22, 22] }) (B : Nat) (v : Value) (ys : List Int) (hs : a.eval s = v) (hown : OwnV w B v ys)
    (zs : List Int) (b off p c : Nat) (hx : a.eval x = .slice (some ⟨b, off, Option.none⟩) p c) (hp : zs.length = p) (h0 : 0 < p) (hb : ∀ k, k < p → w.cell? ⟨b, off + k, Option.none⟩ = some (.int .i64 (zs.getD k 0))) (hl : ys.length + p ≤ 1099511627776) (hB : B ≤ w.heap.size)
    (h : ∀ g cap w', OwnV w' B (.slice (some ⟨g, 0, Option.none⟩) (ys.length + p) cap) (ys ++ zs) → Below B w w' → wpList Try.prog ops Q rest (a.put o.dst (.slice (some ⟨g, 0, Option.none⟩) (ys.length + p) cap)) w') :
    wpList Try.prog ops Q (o :: rest) a w := by
  obtain ⟨i0, hi, hz0, hz1, hz2⟩ := info_parts info_app
  refine wpList_append_lies w hgd s x 22 ho B 2 i0 (.int .i64 0) 1 8 Try.underlying22 hi hz0 hz1 hz2 rfl (by decide) v ys.length (ys.map (Value.int .i64)) hs hown ⟨b, off, Option.none⟩ p c (zs.map (Value.int .i64)) hx (by simp [hp]) ?_ ?_ h0 (by unfold maxLen; omega) (by omega) hB _ rfl ?_
  · intro j u hj
    have hjl : j < zs.length := by
      rcases Nat.lt_or_ge j zs.length with h | h
      · exact h
      · rw [List.getElem?_eq_none (by simp; omega)] at hj; cases hj
    have hu : u = .int .i64 (zs.getD j 0) := by
      rw [List.getElem?_map, getD_at hjl] at hj; simpa using hj.symm
    subst hu
    have e : (⟨b, off, Option.none⟩ : Addr).add j = ⟨b, off + j, Option.none⟩ := by unfold Addr.add; split <;> simp_all
    rw [e]; exact hb j (by omega)
  · intro u hu
    obtain ⟨x, _, rfl⟩ := List.mem_map.1 hu
    rfl
  · intro g cap w' h2 hg hat hlt
    refine h g cap w' ?_ ?_
    · show w'.ownsRow B 2 1 _ (ys ++ zs).length ((ys ++ zs).map (Value.int .i64))
      rw [List.length_append, List.map_append, hp]; exact h2
    · exact (Below.refl B w).grown hg hB (fun k hk => (World.ownsRow.lt hown k hk).1)
/-- the pulse of the first i bits -/
def plTo (bs : List Int) (wd : Nat) (am : Int) : Nat → List Int
  | 0 => []
  | i + 1 => plTo bs wd am i ++ List.replicate wd ((2 * bs.getD i 0 - 1) * am)
def pl (bs : List Int) (wd : Nat) (am : Int) : List Int := plTo bs wd am bs.length
theorem plTo_len (bs : List Int) (wd : Nat) (am : Int) (i : Nat) : (plTo bs wd am i).length = i * wd := by
  induction i with
  | zero => simp [plTo]
  | succ i ih => simp only [plTo, List.length_append, ih, List.length_replicate, Nat.succ_mul]
theorem pl_len (bs : List Int) (wd : Nat) (am : Int) : (pl bs wd am).length = bs.length * wd := plTo_len _ _ _ _
def Bits (bs : List Int) : Prop := ∀ x ∈ bs, 0 ≤ x ∧ x ≤ 1
theorem Bits.at {bs : List Int} (h : Bits bs) (i : Nat) : 0 ≤ bs.getD i 0 ∧ bs.getD i 0 ≤ 1 := by
  by_cases hi : i < bs.length
  · exact h _ (List.mem_of_getElem? (getD_at hi))
  · rw [List.getD_eq_getElem?_getD, List.getElem?_eq_none (by omega)]; decide
def OwnP (zs : List Int) (w : World) (en : Ending) (w9 : World) : Prop := ∃ A c, en = .returned (.slice A zs.length c) ∧ OwnR w9 w.heap.size A zs.length c zs ∧ Below w.heap.size w w9
set_option maxHeartbeats 4000000 in
theorem iPulse_any (A : Option Addr) (n c : Nat) (bs : List Int) (wd : Nat) (am : Int) (w : World) (hn : bs.length = n) (hm : n * wd ≤ 400) (h1 : 1 ≤ wd) (h2 : wd ≤ 400) (hb : Hid (Bits bs)) (ha : 1 ≤ am ∧ am ≤ 1000) (hr : Rd w A bs) :
    Calls Try.prog 107 #[.slice A n c, .int .i64 wd, .int .i64 am] w (OwnP (pl bs wd am) w) := by
  have hn4 : n ≤ 400 := Nat.le_trans (Nat.le_mul_of_pos_right n (by omega)) hm
  have HF : Hid (pl bs wd am = plTo bs wd am n) := by show _ = _; rw [← hn]; rfl
  have HN := Lib.hid hn; clear hn
  have HM := Lib.hid hm; clear hm
  go_enter Try.func107, Try.ntmps107
  go_wp2
  go_loopw [7, 9, 12] (fun v _ i wr => ∃ k : Nat, k ≤ n ∧ i = .int .i64 (k : Int) ∧ Hid (OwnV wr w.heap.size v (plTo bs wd am k)) ∧ Below w.heap.size w wr) (fun _ _ i _ => n - (intOf i).toNat)
  case atStart => exact ⟨0, Nat.zero_le _, rfl, OwnV.none _ _, by go_grown⟩
  case round =>
    obtain ⟨k, hk, rfl, HO, hbel⟩ := hrel
    by_cases hlt : k < n
    · rcases hr with h0 | ⟨b, off, hA, hc⟩
      · exfalso; have h1 := HN.out; rw [h0] at h1; simp at h1; omega
      subst hA
      have hx0 := hc k (by rw [HN.out]; exact hlt)
      have hx := later hbel hx0
      clear hx0 hc
      have xb := hb.out.at k
      obtain ⟨x, hxx⟩ : ∃ x, x = bs.getD k 0 := ⟨_, rfl⟩
      rw [← hxx] at hx xb
      have hz := mul_bd (a := 2 * x - 1) (b := am) (A := 1) (B := 1000) (by omega) (by omega)
      obtain ⟨z, hzz⟩ : ∃ z, z = (2 * x - 1) * am := ⟨_, rfl⟩
      have HS : Hid (plTo bs wd am (k + 1) = plTo bs wd am k ++ List.replicate wd z) := by show _ = _; rw [hzz, hxx]; rfl
      have HZ := Lib.hid hzz; have HX := Lib.hid hxx; clear hzz hxx
      have hkl : (plTo bs wd am k).length ≤ 400 := by rw [plTo_len]; exact Nat.le_trans (Nat.mul_le_mul_right wd hk) HM.out
      have hi0 : (k : Int) < n := by omega
      have l0 : b < wr.heap.size := World.block_lt_of_cell? _ _ hx
      go_wp2_with fail
      rw [← HZ.out]
      refine (rep_any wr.heap.size z wd _ h1 h2 (cell_new1 _ _)).mono ?_
      rintro en w2 ⟨rfl, hz2, hc2, hb2⟩
      simp only [World.size_alloc] at hz2 hc2 ⊢
      have HV := Lib.hid (OwnV.below (OwnV.alloc HO.out _) hb2)
      have HB2 : Hid (Below w.heap.size w w2) := (Below.alloc hbel hbel.size _).trans (hb2.mono (by simp only [World.size_alloc]; have := hbel.size; omega))
      have HC2 : Hid (∀ j, j < wd → w2.cell? ⟨wr.heap.size + 1, 0 + j, none⟩ = some (.int .i64 ((List.replicate wd z).getD j 0))) := by
        show ∀ j, _
        intro j hj
        rw [Nat.zero_add, hc2 j hj]; simp [hj]
      have HLR : Hid ((List.replicate wd z).length = wd) := List.length_replicate
      clear hc2 hb2
      go_wp2_with (at_builtin; refine app_ints rfl _ _ rfl w.heap.size _ (plTo bs wd am k) rfl HV.out (List.replicate wd z) (wr.heap.size + 1) 0 wd wd rfl HLR.out h1 HC2.out (by omega) HB2.out.size ?_; intro g cap w3 hown3 hb3)
      have HO3 : Hid (OwnV w3 w.heap.size (.slice (some ⟨g, 0, none⟩) ((plTo bs wd am k).length + wd) cap) (plTo bs wd am (k + 1))) := by show OwnV _ _ _ _; rw [HS.out]; exact hown3
      have hB3 := HB2.out.trans hb3
      clear hown3
      go_roundw
      case rel => exact ⟨k + 1, by omega, by go_num, HO3, hB3⟩
      case measure => simp [intOf]; omega
    · obtain rfl : k = n := by omega
      obtain ⟨A9, c9, rfl, hR⟩ := HO.out.R
      clear HO
      go_wp2
      go_ret
      exact ⟨A9, c9, by rw [HF.out]; rfl, by rw [HF.out]; exact hR, hbel⟩

set_option maxHeartbeats 4000000 in
theorem sPulse_any (A : Option Addr) (n c : Nat) (bs : List Int) (wd : Nat) (am : Int) (w : World) (hn : bs.length = n) (hm : n * wd ≤ 400) (h1 : 1 ≤ wd) (h2 : wd ≤ 400) (hb : Hid (Bits bs)) (ha : 1 ≤ am ∧ am ≤ 1000) (hr : Rd w A bs) :
    Calls Try.prog 105 #[.slice A n c, .int .i64 wd, .int .i64 am] w (OwnP (pl bs wd am) w) := by
  have hn4 : n ≤ 400 := Nat.le_trans (Nat.le_mul_of_pos_right n (by omega)) hm
  have HF : Hid (pl bs wd am = plTo bs wd am n) := by show _ = _; rw [← hn]; rfl
  have HN := Lib.hid hn; clear hn
  have HM := Lib.hid hm; clear hm
  go_enter Try.func105, Try.ntmps105
  go_wp2
  go_loopw [7, 8, 9] (fun v i _ wr => ∃ k : Nat, k ≤ n ∧ i = .int .i64 (k : Int) ∧ Hid (OwnV wr w.heap.size v (plTo bs wd am k)) ∧ Below w.heap.size w wr) (fun _ i _ _ => n - (intOf i).toNat)
  case atStart => exact ⟨0, Nat.zero_le _, rfl, OwnV.empty _ _ (Nat.le_refl _), by go_grown⟩
  case round =>
    obtain ⟨k, hk, rfl, HO, hbel⟩ := hrel
    by_cases hlt : k < n
    · rcases hr with h0 | ⟨b, off, hA, hc⟩
      · exfalso; have h1 := HN.out; rw [h0] at h1; simp at h1; omega
      subst hA
      have HX0 := Lib.hid (hc k (by rw [HN.out]; exact hlt))
      clear hc
      have xb := hb.out.at k
      obtain ⟨x, hxx⟩ : ∃ x, x = bs.getD k 0 := ⟨_, rfl⟩
      rw [← hxx] at HX0 xb
      have hz := mul_bd (a := 2 * x - 1) (b := am) (A := 1) (B := 1000) (by omega) (by omega)
      obtain ⟨z, hzz⟩ : ∃ z, z = (2 * x - 1) * am := ⟨_, rfl⟩
      have HS : Hid (plTo bs wd am (k + 1) = plTo bs wd am k ++ List.replicate wd z) := by show _ = _; rw [hzz, hxx]; rfl
      have HZ := Lib.hid hzz; have HX := Lib.hid hxx; clear hzz hxx
      have hkl : (plTo bs wd am k).length ≤ 400 := by rw [plTo_len]; exact Nat.le_trans (Nat.mul_le_mul_right wd hk) HM.out
      have hi0 : (k : Int) < n := by omega
      go_wp2
      go_loopw [7, 9] (fun v j w4 => ∃ q : Nat, q ≤ wd ∧ j = .int .i64 (q : Int) ∧ Hid (OwnV w4 w.heap.size v (plTo bs wd am k ++ List.replicate q z)) ∧ Below w.heap.size w w4) (fun _ j _ => wd - (intOf j).toNat)
      case atStart => exact ⟨0, Nat.zero_le _, rfl, by show OwnV _ _ _ _; rw [List.replicate_zero, List.append_nil]; exact HO.out, hbel⟩
      case round =>
        obtain ⟨q, hq, rfl, HQ, hbq⟩ := hrel
        by_cases hlt2 : q < wd
        · have hx := later hbq HX0.out
          have HLL : Hid ((plTo bs wd am k ++ List.replicate q z).length ≤ 800) := by show _ ≤ _; rw [List.length_append, List.length_replicate]; omega
          have HUP : Hid (plTo bs wd am k ++ List.replicate (q + 1) z = (plTo bs wd am k ++ List.replicate q z) ++ [z]) := by
            show _ = _; rw [List.append_assoc, List.replicate_succ']
          have hi1 : (q : Int) < wd := by omega
          go_wp2_with (at_builtin; rw [← HZ.out]; refine app_int rfl _ _ rfl w.heap.size _ (plTo bs wd am k ++ List.replicate q z) rfl (OwnV.alloc HQ.out _) z _ rfl (cell_new1 _ _) (Nat.le_trans HLL.out (by omega)) (by have hsz := hbq.size; simp only [World.size_alloc]; omega) ?_; intro g cap w2 hown2 hb2)
          have HO3 : Hid (OwnV w2 w.heap.size (.slice (some ⟨g, 0, none⟩) ((plTo bs wd am k).length + q + 1) cap) (plTo bs wd am k ++ List.replicate (q + 1) z)) := by show OwnV _ _ _ _; rw [HUP.out]; rw [List.length_append, List.length_replicate] at hown2; exact hown2
          have hB3 : Below w.heap.size w w2 := (Below.alloc hbq hbq.size _).trans hb2
          clear hown2 hb2
          go_roundw
          case rel => exact ⟨q + 1, by omega, by go_num, HO3, hB3⟩
          case measure => simp [intOf]; omega
        · obtain rfl : q = wd := by omega
          have HO3 := HQ
          rw [← HS.out] at HO3
          go_wp2
          go_roundw
          case rel => exact ⟨k + 1, by omega, by go_num, HO3, hbq⟩
          case measure => simp [intOf]; omega
    · obtain rfl : k = n := by omega
      obtain ⟨A9, c9, rfl, hR⟩ := HO.out.R
      clear HO
      go_wp2
      go_ret
      exact ⟨A9, c9, by rw [HF.out]; rfl, by rw [HF.out]; exact hR, hbel⟩

def plOk (bs : List Int) (wd am : Int) : Bool := decide (bs.length ≤ 400) && allIn 0 1 bs && inR wd 1 400 && inR am 1 1000
def plVal (bs : List Int) (wd am : Int) : List Int := if plOk bs wd am && decide ((bs.length : Int) * wd ≤ 400) then pl bs wd.toNat am else []
def plCode (bs : List Int) (wd am : Int) : Int := if plOk bs wd am then (if (bs.length : Int) * wd ≤ 400 then 0 else 3) else 2
theorem pl_no2 {bs : List Int} {wd am : Int} (h : plOk bs wd am = false) : plVal bs wd am = [] ∧ plCode bs wd am = 2 := by simp [plVal, plCode, h]
theorem pl_no3 {bs : List Int} {wd am : Int} (h : plOk bs wd am = true) (h2 : ¬ (bs.length : Int) * wd ≤ 400) : plVal bs wd am = [] ∧ plCode bs wd am = 3 := by simp [plVal, plCode, h, h2]
theorem pl_yes {bs : List Int} {wd am : Int} (h : plOk bs wd am = true) (h2 : (bs.length : Int) * wd ≤ 400) : plVal bs wd am = pl bs wd.toNat am ∧ plCode bs wd am = 0 := by simp [plVal, plCode, h, h2]
theorem plVal_len {bs : List Int} {wd am : Int} : (plVal bs wd am).length ≤ 1048576 := by
  unfold plVal; split
  · rename_i h
    simp only [Bool.and_eq_true, decide_eq_true_eq] at h
    have h2 := h.2
    have h3 : 1 ≤ wd := by have := h.1; simp only [plOk, Bool.and_eq_true, inR_iff] at this; exact this.1.2.1
    rw [pl_len]
    have e : ((bs.length * wd.toNat : Nat) : Int) = bs.length * wd := by rw [Int.natCast_mul, Int.toNat_of_nonneg (by omega)]
    omega
  · simp

set_option maxHeartbeats 4000000 in
theorem iPob_any (A : Option Addr) (n c : Nat) (bs : List Int) (wd am : Int) (w : World) (hn : bs.length = n) (hnc : n ≤ c) (hm : n ≤ 1048576) (hr : Rd w A bs) :
    Calls Try.prog 50 #[.slice A n c, .int .i64 wd, .int .i64 am] w fun en w9 => ∃ A9 c9, en = .returned (.tuple #[.slice A9 (plVal bs wd am).length c9, .int .i64 (plCode bs wd am)]) ∧ OwnR w9 w.heap.size A9 (plVal bs wd am).length c9 (plVal bs wd am) ∧ Below w.heap.size w w9 := by
  by_cases g2 : n ≤ 400
  · have b2 : decide ((n : Int) ≤ 400) = true := decide_eq_true (by omega)
    have c2 : ¬ (400 : Int) < n := by omega
    rcases Bool.eq_false_or_eq_true (allIn 0 1 bs) with g4 | g4
    · rcases Bool.eq_false_or_eq_true (inR wd 1 400) with g5 | g5
      · rcases Bool.eq_false_or_eq_true (inR am 1 1000) with g6 | g6
        · have HOK : Hid (plOk bs wd am = true) := by show _ = _; simp [plOk, hn, g2, g4, g5, g6]
          have w2 := inR_iff.1 g5
          have a2 := inR_iff.1 g6
          by_cases g7 : (n : Int) * wd ≤ 400
          · have HV : Hid (plVal bs wd am = pl bs wd.toNat am ∧ plCode bs wd am = 0) := pl_yes HOK.out (by rw [hn]; exact g7)
            have hmb := mul_bd (a := (n : Int)) (b := wd) (A := 400) (B := 400) (by omega) (by omega)
            obtain ⟨k, rfl⟩ : ∃ k : Nat, wd = k := ⟨wd.toNat, by omega⟩
            have hnk : n * k ≤ 400 := by have e : ((n * k : Nat) : Int) = n * k := Int.natCast_mul n k; omega
            have HB : Hid (Bits bs) := allIn_iff.1 g4
            have HNK := Lib.hid hnk; clear hnk
            go_enter Try.func50, Try.ntmps50
            go_wp2_with (first | (go_at_call 106; refine (areWithin_any _ _ _ _ _ _ _ (by assumption) (by omega) (by assumption)).mono ?_; rintro en w1 ⟨rfl, rfl⟩) | (go_at_call 79; refine (within_any _ _ _ _).mono ?_; rintro en w1 ⟨rfl, rfl⟩) | (go_at_call 83; refine (len_any _ _ _ _).mono ?_; rintro en w1 ⟨rfl, rfl⟩))
            refine (iPulse_any A n c bs k am _ hn HNK.out (by omega) (by omega) HB a2 (by assumption)).mono ?_
            rintro en w1 ⟨A9, c9, rfl, hR, hbel⟩
            go_wp2
            go_ret2
            exact ⟨A9, c9, by rw [HV.out.1, HV.out.2]; rfl, by rw [HV.out.1]; exact hR, hbel⟩
          · have HV : Hid (plVal bs wd am = [] ∧ plCode bs wd am = 3) := pl_no3 HOK.out (by rw [hn]; exact g7)
            have hmb := mul_bd (a := (n : Int)) (b := wd) (A := 400) (B := 400) (by omega) (by omega)
            go_enter Try.func50, Try.ntmps50
            go_wp2_with (first | (go_at_call 106; refine (areWithin_any _ _ _ _ _ _ _ (by assumption) (by omega) (by assumption)).mono ?_; rintro en w1 ⟨rfl, rfl⟩) | (go_at_call 79; refine (within_any _ _ _ _).mono ?_; rintro en w1 ⟨rfl, rfl⟩) | (go_at_call 83; refine (len_any _ _ _ _).mono ?_; rintro en w1 ⟨rfl, rfl⟩))
            go_ret2
            exact ⟨none, 0, by rw [HV.out.1, HV.out.2]; rfl, by rw [HV.out.1]; exact ⟨rfl, Nat.le_refl _, .inl ⟨rfl, rfl⟩⟩, by go_grown⟩
        · have HV : Hid (plVal bs wd am = [] ∧ plCode bs wd am = 2) := pl_no2 (by simp [plOk, hn, g2, g4, g5, g6])
          go_enter Try.func50, Try.ntmps50
          go_wp2_with (first | (go_at_call 106; refine (areWithin_any _ _ _ _ _ _ _ (by assumption) (by omega) (by assumption)).mono ?_; rintro en w1 ⟨rfl, rfl⟩) | (go_at_call 79; refine (within_any _ _ _ _).mono ?_; rintro en w1 ⟨rfl, rfl⟩) | (go_at_call 83; refine (len_any _ _ _ _).mono ?_; rintro en w1 ⟨rfl, rfl⟩))
          go_ret2
          exact ⟨none, 0, by rw [HV.out.1, HV.out.2]; rfl, by rw [HV.out.1]; exact ⟨rfl, Nat.le_refl _, .inl ⟨rfl, rfl⟩⟩, by go_grown⟩
      · have HV : Hid (plVal bs wd am = [] ∧ plCode bs wd am = 2) := pl_no2 (by simp [plOk, hn, g2, g4, g5])
        go_enter Try.func50, Try.ntmps50
        go_wp2_with (first | (go_at_call 106; refine (areWithin_any _ _ _ _ _ _ _ (by assumption) (by omega) (by assumption)).mono ?_; rintro en w1 ⟨rfl, rfl⟩) | (go_at_call 79; refine (within_any _ _ _ _).mono ?_; rintro en w1 ⟨rfl, rfl⟩) | (go_at_call 83; refine (len_any _ _ _ _).mono ?_; rintro en w1 ⟨rfl, rfl⟩))
        go_ret2
        exact ⟨none, 0, by rw [HV.out.1, HV.out.2]; rfl, by rw [HV.out.1]; exact ⟨rfl, Nat.le_refl _, .inl ⟨rfl, rfl⟩⟩, by go_grown⟩
    · have HV : Hid (plVal bs wd am = [] ∧ plCode bs wd am = 2) := pl_no2 (by simp [plOk, hn, g2, g4])
      go_enter Try.func50, Try.ntmps50
      go_wp2_with (first | (go_at_call 106; refine (areWithin_any _ _ _ _ _ _ _ (by assumption) (by omega) (by assumption)).mono ?_; rintro en w1 ⟨rfl, rfl⟩) | (go_at_call 79; refine (within_any _ _ _ _).mono ?_; rintro en w1 ⟨rfl, rfl⟩) | (go_at_call 83; refine (len_any _ _ _ _).mono ?_; rintro en w1 ⟨rfl, rfl⟩))
      go_ret2
      exact ⟨none, 0, by rw [HV.out.1, HV.out.2]; rfl, by rw [HV.out.1]; exact ⟨rfl, Nat.le_refl _, .inl ⟨rfl, rfl⟩⟩, by go_grown⟩
  · have HV : Hid (plVal bs wd am = [] ∧ plCode bs wd am = 2) := pl_no2 (by simp [plOk, hn, g2])
    have b2 : decide ((n : Int) ≤ 400) = false := decide_eq_false (by omega)
    have c2 : (400 : Int) < n := by omega
    rcases Bool.eq_false_or_eq_true (allIn 0 1 bs) with g4 | g4
    · go_enter Try.func50, Try.ntmps50
      go_wp2_with (first | (go_at_call 106; refine (areWithin_any _ _ _ _ _ _ _ (by assumption) (by omega) (by assumption)).mono ?_; rintro en w1 ⟨rfl, rfl⟩) | (go_at_call 79; refine (within_any _ _ _ _).mono ?_; rintro en w1 ⟨rfl, rfl⟩) | (go_at_call 83; refine (len_any _ _ _ _).mono ?_; rintro en w1 ⟨rfl, rfl⟩))
      go_ret2
      exact ⟨none, 0, by rw [HV.out.1, HV.out.2]; rfl, by rw [HV.out.1]; exact ⟨rfl, Nat.le_refl _, .inl ⟨rfl, rfl⟩⟩, by go_grown⟩
    · go_enter Try.func50, Try.ntmps50
      go_wp2_with (first | (go_at_call 106; refine (areWithin_any _ _ _ _ _ _ _ (by assumption) (by omega) (by assumption)).mono ?_; rintro en w1 ⟨rfl, rfl⟩) | (go_at_call 79; refine (within_any _ _ _ _).mono ?_; rintro en w1 ⟨rfl, rfl⟩) | (go_at_call 83; refine (len_any _ _ _ _).mono ?_; rintro en w1 ⟨rfl, rfl⟩))
      go_ret2
      exact ⟨none, 0, by rw [HV.out.1, HV.out.2]; rfl, by rw [HV.out.1]; exact ⟨rfl, Nat.le_refl _, .inl ⟨rfl, rfl⟩⟩, by go_grown⟩

set_option maxHeartbeats 4000000 in
theorem sPob_any (A : Option Addr) (n c : Nat) (bs : List Int) (wd am : Int) (w : World) (hn : bs.length = n) (hnc : n ≤ c) (hm : n ≤ 1048576) (hr : Rd w A bs) :
    Calls Try.prog 49 #[.slice A n c, .int .i64 wd, .int .i64 am] w fun en w9 => ∃ A9 c9, en = .returned (.tuple #[.slice A9 (plVal bs wd am).length c9, .int .i64 (plCode bs wd am)]) ∧ OwnR w9 w.heap.size A9 (plVal bs wd am).length c9 (plVal bs wd am) ∧ Below w.heap.size w w9 := by
  by_cases g2 : n ≤ 400
  · have b2 : decide ((n : Int) ≤ 400) = true := decide_eq_true (by omega)
    have c2 : ¬ (400 : Int) < n := by omega
    rcases Bool.eq_false_or_eq_true (allIn 0 1 bs) with g4 | g4
    · rcases Bool.eq_false_or_eq_true (inR wd 1 400) with g5 | g5
      · rcases Bool.eq_false_or_eq_true (inR am 1 1000) with g6 | g6
        · have HOK : Hid (plOk bs wd am = true) := by show _ = _; simp [plOk, hn, g2, g4, g5, g6]
          have w2 := inR_iff.1 g5
          have a2 := inR_iff.1 g6
          by_cases g7 : (n : Int) * wd ≤ 400
          · have HV : Hid (plVal bs wd am = pl bs wd.toNat am ∧ plCode bs wd am = 0) := pl_yes HOK.out (by rw [hn]; exact g7)
            have hmb := mul_bd (a := (n : Int)) (b := wd) (A := 400) (B := 400) (by omega) (by omega)
            obtain ⟨k, rfl⟩ : ∃ k : Nat, wd = k := ⟨wd.toNat, by omega⟩
            have hnk : n * k ≤ 400 := by have e : ((n * k : Nat) : Int) = n * k := Int.natCast_mul n k; omega
            have HB : Hid (Bits bs) := allIn_iff.1 g4
            have HNK := Lib.hid hnk; clear hnk
            go_enter Try.func49, Try.ntmps49
            go_wp2_with (first | (go_at_call 95; refine (l01Within_any _ _ _ _ _ _ _ _ (by assumption) (by omega) (by assumption)).mono ?_; rintro en w1 ⟨rfl, rfl⟩) | (go_at_call 74; refine (l01In_any _ _ _ _).mono ?_; rintro en w1 ⟨rfl, rfl⟩))
            refine (sPulse_any A n c bs k am _ hn HNK.out (by omega) (by omega) HB a2 (by assumption)).mono ?_
            rintro en w1 ⟨A9, c9, rfl, hR, hbel⟩
            go_wp2
            go_ret2
            exact ⟨A9, c9, by rw [HV.out.1, HV.out.2]; rfl, by rw [HV.out.1]; exact hR, hbel⟩
          · have HV : Hid (plVal bs wd am = [] ∧ plCode bs wd am = 3) := pl_no3 HOK.out (by rw [hn]; exact g7)
            have hmb := mul_bd (a := (n : Int)) (b := wd) (A := 400) (B := 400) (by omega) (by omega)
            go_enter Try.func49, Try.ntmps49
            go_wp2_with (first | (go_at_call 95; refine (l01Within_any _ _ _ _ _ _ _ _ (by assumption) (by omega) (by assumption)).mono ?_; rintro en w1 ⟨rfl, rfl⟩) | (go_at_call 74; refine (l01In_any _ _ _ _).mono ?_; rintro en w1 ⟨rfl, rfl⟩))
            go_ret2
            exact ⟨none, 0, by rw [HV.out.1, HV.out.2]; rfl, by rw [HV.out.1]; exact ⟨rfl, Nat.le_refl _, .inl ⟨rfl, rfl⟩⟩, by go_grown⟩
        · have HV : Hid (plVal bs wd am = [] ∧ plCode bs wd am = 2) := pl_no2 (by simp [plOk, hn, g2, g4, g5, g6])
          go_enter Try.func49, Try.ntmps49
          go_wp2_with (first | (go_at_call 95; refine (l01Within_any _ _ _ _ _ _ _ _ (by assumption) (by omega) (by assumption)).mono ?_; rintro en w1 ⟨rfl, rfl⟩) | (go_at_call 74; refine (l01In_any _ _ _ _).mono ?_; rintro en w1 ⟨rfl, rfl⟩))
          go_ret2
          exact ⟨none, 0, by rw [HV.out.1, HV.out.2]; rfl, by rw [HV.out.1]; exact ⟨rfl, Nat.le_refl _, .inl ⟨rfl, rfl⟩⟩, by go_grown⟩
      · have HV : Hid (plVal bs wd am = [] ∧ plCode bs wd am = 2) := pl_no2 (by simp [plOk, hn, g2, g4, g5])
        go_enter Try.func49, Try.ntmps49
        go_wp2_with (first | (go_at_call 95; refine (l01Within_any _ _ _ _ _ _ _ _ (by assumption) (by omega) (by assumption)).mono ?_; rintro en w1 ⟨rfl, rfl⟩) | (go_at_call 74; refine (l01In_any _ _ _ _).mono ?_; rintro en w1 ⟨rfl, rfl⟩))
        go_ret2
        exact ⟨none, 0, by rw [HV.out.1, HV.out.2]; rfl, by rw [HV.out.1]; exact ⟨rfl, Nat.le_refl _, .inl ⟨rfl, rfl⟩⟩, by go_grown⟩
    · have HV : Hid (plVal bs wd am = [] ∧ plCode bs wd am = 2) := pl_no2 (by simp [plOk, hn, g2, g4])
      go_enter Try.func49, Try.ntmps49
      go_wp2_with (first | (go_at_call 95; refine (l01Within_any _ _ _ _ _ _ _ _ (by assumption) (by omega) (by assumption)).mono ?_; rintro en w1 ⟨rfl, rfl⟩) | (go_at_call 74; refine (l01In_any _ _ _ _).mono ?_; rintro en w1 ⟨rfl, rfl⟩))
      go_ret2
      exact ⟨none, 0, by rw [HV.out.1, HV.out.2]; rfl, by rw [HV.out.1]; exact ⟨rfl, Nat.le_refl _, .inl ⟨rfl, rfl⟩⟩, by go_grown⟩
  · have HV : Hid (plVal bs wd am = [] ∧ plCode bs wd am = 2) := pl_no2 (by simp [plOk, hn, g2])
    have b2 : decide ((n : Int) ≤ 400) = false := decide_eq_false (by omega)
    have c2 : (400 : Int) < n := by omega
    rcases Bool.eq_false_or_eq_true (allIn 0 1 bs) with g4 | g4
    · go_enter Try.func49, Try.ntmps49
      go_wp2_with (first | (go_at_call 95; refine (l01Within_any _ _ _ _ _ _ _ _ (by assumption) (by omega) (by assumption)).mono ?_; rintro en w1 ⟨rfl, rfl⟩) | (go_at_call 74; refine (l01In_any _ _ _ _).mono ?_; rintro en w1 ⟨rfl, rfl⟩))
      go_ret2
      exact ⟨none, 0, by rw [HV.out.1, HV.out.2]; rfl, by rw [HV.out.1]; exact ⟨rfl, Nat.le_refl _, .inl ⟨rfl, rfl⟩⟩, by go_grown⟩
    · go_enter Try.func49, Try.ntmps49
      go_wp2_with (first | (go_at_call 95; refine (l01Within_any _ _ _ _ _ _ _ _ (by assumption) (by omega) (by assumption)).mono ?_; rintro en w1 ⟨rfl, rfl⟩) | (go_at_call 74; refine (l01In_any _ _ _ _).mono ?_; rintro en w1 ⟨rfl, rfl⟩))
      go_ret2
      exact ⟨none, 0, by rw [HV.out.1, HV.out.2]; rfl, by rw [HV.out.1]; exact ⟨rfl, Nat.le_refl _, .inl ⟨rfl, rfl⟩⟩, by go_grown⟩
end Go.Proofs.Ytgfhmihnnjcagaa
