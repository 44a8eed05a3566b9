/- walks: times, places, directions drawn -/
import Derived.Test.YtfmhbphbgdijpaaDrW
import Derived.Test.YtfmhbphbgdijpaaNum
import Derived.Test.YtfmhbphbgdijpaaW2
import Derived.RegionTactic
import Derived.BigRegion
set_option linter.unusedVariables false
set_option linter.unusedSimpArgs false
namespace Go.Proofs.Ytfmhbphbgdijpaa
open Go.RowKit

def TwoPost (s : Nat) (w : World) (en : Ending) (w9 : World) : Prop := ∃ x y : Int, en = .returned (.tuple #[.int .i64 x, .int .i64 y]) ∧ Src w9 s ∧ Gs s w w9
def DirPost (s : Nat) (w : World) (en : Ending) (w9 : World) : Prop := ∃ x y z : Int, en = .returned (.agg #[.int .i64 x, .int .i64 y, .int .i64 z]) ∧ Src w9 s ∧ Gs s w w9
def MkPost (w : World) (en : Ending) (w9 : World) : Prop := ∃ x y z k : Int, en = .returned (.tuple #[.agg #[.int .i64 x, .int .i64 y, .int .i64 z], .int .i64 k]) ∧ Below w.heap.size w w9
set_option maxRecDepth 100000 in
set_option maxHeartbeats 8000000 in
theorem dTimes_any (s : Nat) (w : World) (h : Src w s) : Calls Try.prog 68 #[.pointer (some ⟨s, 0, none⟩)] w (TwoPost s w) := by
  have ls0 := h.lt
  go_enter Try.func68, Try.ntmps68
  go_wp2_with fail
  refine (next_any s _ _ (by repeat (first | with_reducible exact h | with_reducible refine Src.alloc ?_ _))).mono ?_
  rintro en w1 ⟨k, rfl, k0, kb, hs, hg⟩
  have HS1 := Lib.hid hs
  have HG1 : Hid (Gs s w w1) := Gs.trans (by repeat (first | with_reducible exact (Gs.refl s w) | with_reducible refine Gs.alloc ?_ _)) hg
  have hz1 : w.heap.size ≤ w1.heap.size := HG1.out.size
  have lq1 : s < w1.heap.size := HS1.out.lt
  clear hs hg
  by_cases e0 : k = 0
  · have f0 : (k == 0) = true := by simpa using e0
    clear e0
    go_wp2_with fail
    refine (pick_any s _ 4 4 [0, 1, 100000, 100001] _ (by repeat (first | with_reducible exact HS1.out | with_reducible refine Src.alloc ?_ _)) rfl (by decide) (by decide) (Rd.new2 _ _ [0, 1, 100000, 100001] (by first | (simp only [World.size_alloc]; done) | (go_size; done))) (fun b off e => by cases e; omega)).mono ?_
    rintro en w2 ⟨x, rfl, xm, hs, hg⟩
    have HS2 := Lib.hid hs
    have HG2 : Hid (Gs s w w2) := Gs.trans (by repeat (first | with_reducible exact HG1.out | with_reducible refine Gs.alloc ?_ _)) hg
    have hz2 : w.heap.size ≤ w2.heap.size := HG2.out.size
    have lq2 : s < w2.heap.size := HS2.out.lt
    clear hs hg
    go_wp2
    go_ret2
    exact ⟨_, _, rfl, (by repeat (first | with_reducible exact HS2.out | with_reducible refine Src.alloc ?_ _)), (by repeat (first | with_reducible exact HG2.out | with_reducible refine Gs.alloc ?_ _))⟩
  · have f0 : (k == 0) = false := by simpa using e0
    clear e0
    by_cases e1 : k = 1
    · have f1 : (k == 1) = true := by simpa using e1
      clear e1
      go_wp2_with fail
      refine (pick_any s _ 4 4 [1300000, 1299999, 1700000, 1700001] _ (by repeat (first | with_reducible exact HS1.out | with_reducible refine Src.alloc ?_ _)) rfl (by decide) (by decide) (Rd.new2 _ _ [1300000, 1299999, 1700000, 1700001] (by first | (simp only [World.size_alloc]; done) | (go_size; done))) (fun b off e => by cases e; omega)).mono ?_
      rintro en w2 ⟨x, rfl, xm, hs, hg⟩
      have HS2 := Lib.hid hs
      have HG2 : Hid (Gs s w w2) := Gs.trans (by repeat (first | with_reducible exact HG1.out | with_reducible refine Gs.alloc ?_ _)) hg
      have hz2 : w.heap.size ≤ w2.heap.size := HG2.out.size
      have lq2 : s < w2.heap.size := HS2.out.lt
      clear hs hg
      go_wp2
      go_ret2
      exact ⟨_, _, rfl, (by repeat (first | with_reducible exact HS2.out | with_reducible refine Src.alloc ?_ _)), (by repeat (first | with_reducible exact HG2.out | with_reducible refine Gs.alloc ?_ _))⟩
    · have f1 : (k == 1) = false := by simpa using e1
      clear e1
      go_wp2_with fail
      refine (next_any s _ _ (by repeat (first | with_reducible exact HS1.out | with_reducible refine Src.alloc ?_ _))).mono ?_
      rintro en w2 ⟨x, rfl, x0, xb, hs, hg⟩
      have HS2 := Lib.hid hs
      have HG2 : Hid (Gs s w w2) := Gs.trans (by repeat (first | with_reducible exact HG1.out | with_reducible refine Gs.alloc ?_ _)) hg
      have hz2 : w.heap.size ≤ w2.heap.size := HG2.out.size
      have lq2 : s < w2.heap.size := HS2.out.lt
      clear hs hg
      go_wp2_with fail
      refine (next_any s _ _ (by repeat (first | with_reducible exact HS2.out | with_reducible refine Src.alloc ?_ _))).mono ?_
      rintro en w3 ⟨y, rfl, y0, yb, hs, hg⟩
      have HS3 := Lib.hid hs
      have HG3 : Hid (Gs s w w3) := Gs.trans (by repeat (first | with_reducible exact HG2.out | with_reducible refine Gs.alloc ?_ _)) hg
      have hz3 : w.heap.size ≤ w3.heap.size := HG3.out.size
      have lq3 : s < w3.heap.size := HS3.out.lt
      clear hs hg
      go_wp2
      go_ret2
      exact ⟨_, _, rfl, (by repeat (first | with_reducible exact HS3.out | with_reducible refine Src.alloc ?_ _)), (by repeat (first | with_reducible exact HG3.out | with_reducible refine Gs.alloc ?_ _))⟩
set_option maxRecDepth 100000 in
set_option maxHeartbeats 8000000 in
theorem dArr_any (s : Nat) (w : World) (h : Src w s) : Calls Try.prog 69 #[.pointer (some ⟨s, 0, none⟩)] w (LstPost 8 s w) := by
  have ls0 := h.lt
  go_enter Try.func69, Try.ntmps69
  have HO0 := Lib.hid (OwnV.empty w w.heap.size (Nat.le_refl _))
  go_wp2_with fail
  refine (next_any s _ _ (by repeat (first | with_reducible exact h | with_reducible refine Src.alloc ?_ _))).mono ?_
  rintro en w1 ⟨a0, rfl, a00, a0b, hs, hg⟩
  have HS1 := Lib.hid hs
  have HG1 : Hid (Gs s w w1) := Gs.trans (by repeat (first | with_reducible exact (Gs.refl s w) | with_reducible refine Gs.alloc ?_ _)) hg
  have HO1_0 : Hid (OwnV w1 w.heap.size (.slice (some ⟨w.heap.size, 0, none⟩) 0 0) ([])) := OwnV.gs (by repeat (first | with_reducible exact HO0.out | with_reducible refine OwnV.alloc ?_ _)) hg ls0
  have hz1 : w.heap.size ≤ w1.heap.size := HG1.out.size
  have lq1 : s < w1.heap.size := HS1.out.lt
  clear hs hg
  go_wp2_with fail
  refine (next_any s _ _ (by repeat (first | with_reducible exact HS1.out | with_reducible refine Src.alloc ?_ _))).mono ?_
  rintro en w2 ⟨x, rfl, x0, xb, hs, hg⟩
  have HS2 := Lib.hid hs
  have HG2 : Hid (Gs s w w2) := Gs.trans (by repeat (first | with_reducible exact HG1.out | with_reducible refine Gs.alloc ?_ _)) hg
  have HO2_0 : Hid (OwnV w2 w.heap.size (.slice (some ⟨w.heap.size, 0, none⟩) 0 0) ([])) := OwnV.gs (by repeat (first | with_reducible exact HO1_0.out | with_reducible refine OwnV.alloc ?_ _)) hg ls0
  have hz2 : w.heap.size ≤ w2.heap.size := HG2.out.size
  have lq2 : s < w2.heap.size := HS2.out.lt
  clear hs hg
  have hxm : a0 ≤ 119 ∧ x ≤ 4 := by omega
  go_wp2
  go_loopw [3, 4, 5] (fun v u i wr => ∃ (j : Nat) (a : Int) (xs : List Int), i = .int .i64 (j : Int) ∧ u = .int .i64 a ∧ (-119 ≤ a ∧ a + 69 * j ≤ 345) ∧ xs.length + j ≤ 5 ∧ Hid (OwnV wr w.heap.size v xs) ∧ w.heap.size ≤ wr.heap.size ∧ Hid (Src wr s) ∧ Hid (Gs s w wr)) (fun _ _ i _ => (intOf i).toNat)
  case atStart => exact ⟨(1 + x).toNat, -a0, [], by congr 1; omega, rfl, by omega, by simp; omega, HO2_0, hz2, HS2, HG2⟩
  
  case round =>
    obtain ⟨j, a, xs, rfl, rfl, ha, hl, HV, hz, HR, HH⟩ := hrel
    have hlq := HR.out.lt
    cases j with
    | zero =>
      go_wp2_with fail
      refine (next_any s _ _ (by repeat (first | with_reducible exact HR.out | with_reducible refine Src.alloc ?_ _))).mono ?_
      rintro en w21 ⟨k, rfl, k0, kb, hs, hg⟩
      have HS21 := Lib.hid hs
      have HG21 : Hid (Gs s w w21) := Gs.trans (by repeat (first | with_reducible exact HH.out | with_reducible refine Gs.alloc ?_ _)) hg
      have HO21_0 : Hid (OwnV w21 w.heap.size (u3) (xs)) := OwnV.gs (by repeat (first | with_reducible exact HV.out | with_reducible refine OwnV.alloc ?_ _)) hg ls0
      have hz21 : w.heap.size ≤ w21.heap.size := HG21.out.size
      have lq21 : s < w21.heap.size := HS21.out.lt
      clear hs hg
      by_cases e0 : k = 0
      · have f0 : (k == 0) = true := by simpa using e0
        clear e0
        go_wp2_with fail
        refine (pick_any s _ 3 3 [(a - 200), 10000, 10001] _ (by repeat (first | with_reducible exact HS21.out | with_reducible refine Src.alloc ?_ _)) rfl (by decide) (by decide) (Rd.new2 _ _ [(a - 200), 10000, 10001] (by first | (simp only [World.size_alloc]; done) | (go_size; done))) (fun b off e => by cases e; omega)).mono ?_
        rintro en w22 ⟨p, rfl, pm, hs, hg⟩
        have HS22 := Lib.hid hs
        have HG22 : Hid (Gs s w w22) := Gs.trans (by repeat (first | with_reducible exact HG21.out | with_reducible refine Gs.alloc ?_ _)) hg
        have HO22_0 : Hid (OwnV w22 w.heap.size (u3) (xs)) := OwnV.gs (by repeat (first | with_reducible exact HO21_0.out | with_reducible refine OwnV.alloc ?_ _)) hg ls0
        have hz22 : w.heap.size ≤ w22.heap.size := HG22.out.size
        have lq22 : s < w22.heap.size := HS22.out.lt
        clear hs hg
        go_wp2_with (at_builtin; refine app_int rfl _ _ rfl w.heap.size (u3) (xs) rfl (OwnV.alloc (by repeat (first | with_reducible exact HO22_0.out | with_reducible refine OwnV.alloc ?_ _)) _) (p) _ rfl (cell_new1 _ _) (by omega) (by simp only [World.size_alloc]; omega) ?_; intro g23 cap23 w23 hown hb)
        have HS23 := Lib.hid (Src.low (Src.alloc (by repeat (first | with_reducible exact HS22.out | with_reducible refine Src.alloc ?_ _)) _) hb ls0)
        have HG23 : Hid (Gs s w w23) := Gs.then (Gs.alloc (by repeat (first | with_reducible exact HG22.out | with_reducible refine Gs.alloc ?_ _)) _) hb
        have HO23_0 : Hid (OwnV w23 w.heap.size (.slice (some ⟨g23, 0, none⟩) ((xs).length + 1) cap23) (xs ++ [p])) := hown
        have hz23 : w.heap.size ≤ w23.heap.size := HG23.out.size
        have lq23 : s < w23.heap.size := HS23.out.lt
        clear hown hb
        go_wp2
        go_ret
        exact ⟨.slice (some ⟨g23, 0, none⟩) ((xs).length + 1) cap23, xs ++ [p], rfl, (by repeat (first | with_reducible exact HO23_0.out | with_reducible refine OwnV.alloc ?_ _)), (by simp; omega), (by repeat (first | with_reducible exact HS23.out | with_reducible refine Src.alloc ?_ _)), (by repeat (first | with_reducible exact HG23.out | with_reducible refine Gs.alloc ?_ _))⟩
      · have f0 : (k == 0) = false := by simpa using e0
        clear e0
        by_cases e1 : k = 1
        · have f1 : (k == 1) = true := by simpa using e1
          clear e1
          go_wp2
          go_ret
          exact ⟨_, [], rfl, OwnV.none _ _, Nat.zero_le _, (by repeat (first | with_reducible exact HS21.out | with_reducible refine Src.alloc ?_ _)), (by repeat (first | with_reducible exact HG21.out | with_reducible refine Gs.alloc ?_ _))⟩
        · have f1 : (k == 1) = false := by simpa using e1
          clear e1
          go_wp2
          go_ret
          exact ⟨u3, xs, rfl, (by repeat (first | with_reducible exact HO21_0.out | with_reducible refine OwnV.alloc ?_ _)), (by omega), (by repeat (first | with_reducible exact HS21.out | with_reducible refine Src.alloc ?_ _)), (by repeat (first | with_reducible exact HG21.out | with_reducible refine Gs.alloc ?_ _))⟩
    | succ j =>
      have hj : (0 : Int) < ((j + 1 : Nat) : Int) := by omega
      go_wp2_with (at_builtin; refine app_int rfl _ _ rfl w.heap.size (u3) (xs) rfl (OwnV.alloc (by repeat (first | with_reducible exact HV.out | with_reducible refine OwnV.alloc ?_ _)) _) (a) _ rfl (cell_new1 _ _) (by omega) (by simp only [World.size_alloc]; omega) ?_; intro g11 cap11 w11 hown hb)
      have HS11 := Lib.hid (Src.low (Src.alloc (by repeat (first | with_reducible exact HR.out | with_reducible refine Src.alloc ?_ _)) _) hb ls0)
      have HG11 : Hid (Gs s w w11) := Gs.then (Gs.alloc (by repeat (first | with_reducible exact HH.out | with_reducible refine Gs.alloc ?_ _)) _) hb
      have HO11_0 : Hid (OwnV w11 w.heap.size (.slice (some ⟨g11, 0, none⟩) ((xs).length + 1) cap11) (xs ++ [a])) := hown
      have hz11 : w.heap.size ≤ w11.heap.size := HG11.out.size
      have lq11 : s < w11.heap.size := HS11.out.lt
      clear hown hb
      go_wp2_with fail
      refine (next_any s _ _ (by repeat (first | with_reducible exact HS11.out | with_reducible refine Src.alloc ?_ _))).mono ?_
      rintro en w12 ⟨z, rfl, z0, zb, hs, hg⟩
      have HS12 := Lib.hid hs
      have HG12 : Hid (Gs s w w12) := Gs.trans (by repeat (first | with_reducible exact HG11.out | with_reducible refine Gs.alloc ?_ _)) hg
      have HO12_0 : Hid (OwnV w12 w.heap.size (.slice (some ⟨g11, 0, none⟩) ((xs).length + 1) cap11) (xs ++ [a])) := OwnV.gs (by repeat (first | with_reducible exact HO11_0.out | with_reducible refine OwnV.alloc ?_ _)) hg ls0
      have hz12 : w.heap.size ≤ w12.heap.size := HG12.out.size
      have lq12 : s < w12.heap.size := HS12.out.lt
      clear hs hg
      go_wp2
      go_roundw
      case rel => exact ⟨j, a + 10 + z, xs ++ [a], by go_num, rfl, by omega, by simp; omega, HO12_0, hz12, HS12, HG12⟩
      case measure => simp [intOf]

theorem sq_bd {x B : Int} (h : 1 ≤ x ∧ x ≤ B) : 1 ≤ x * x ∧ x * x ≤ B * B := by
  have h1 : 1 * 1 ≤ x * x := Int.mul_le_mul h.1 h.1 (by omega) (by omega)
  have h2 : x * x ≤ B * B := Int.mul_le_mul h.2 h.2 (by omega) (by omega)
  omega
theorem gcd_low {a b A : Int} (h : 1 ≤ a ∧ a ≤ A) : (1 : Int) ≤ (Int.gcd a b : Nat) ∧ ((Int.gcd a b : Nat) : Int) ≤ A := by
  have h1 : Int.gcd a b ≤ a.natAbs := Nat.gcd_le_left _ (by omega)
  have h2 : 0 < Int.gcd a b := Nat.gcd_pos_of_pos_left _ (by omega)
  omega

set_option maxRecDepth 100000 in
set_option maxHeartbeats 8000000 in
theorem mkdir_any (m n : Int) (b : Bool) (w : World) (hm : 1 ≤ m ∧ m ≤ n - 1) (hn : 2 ≤ n ∧ n ≤ 21) : Calls Try.prog 94 #[.int .i64 m, .int .i64 n, .bool b] w (MkPost w) := by
  have m1 := sq_bd (x := n) (B := 21) (by omega)
  have m2 := sq_bd (x := m) (B := 20) (by omega)
  have m3 : 1 ≤ m * n ∧ m * n ≤ 441 := by
    have h1 : 1 * 1 ≤ m * n := Int.mul_le_mul hm.1 (by omega) (by omega) (by omega)
    have h2 : m * n ≤ 21 * 21 := Int.mul_le_mul (by omega) (by omega) (by omega) (by omega)
    omega
  have m5 : m * m ≤ n * n - 1 := by
    have h2 : m * m ≤ (n - 1) * (n - 1) := Int.mul_le_mul (by omega) (by omega) (by omega) (by omega)
    have e : (n - 1) * (n - 1) = n * n - 2 * n + 1 := by grind
    omega
  have e5 : 2 * m * n = 2 * (m * n) := Int.mul_assoc _ _ _
  have g1 := gcd_low (a := n * n - m * m) (b := 2 * m * n) (A := 440) (by omega)
  have g2 := gcd_low (a := ((Int.gcd (n * n - m * m) (2 * m * n) : Nat) : Int)) (b := n * n + m * m) (A := 440) (by omega)
  have m6 : 2 ≤ 2 * m * n ∧ 2 * m * n ≤ 882 := by omega
  have hnl : ¬ (1000 : Int) < n * n + m * m := by omega
  have i1 : inR n 2 1000 = true := inR_iff.2 (by omega)
  have i2 : inR m 1 (n - 1) = true := inR_iff.2 (by omega)
  have q1 := sGcd_any (n * n - m * m) (2 * m * n) (by omega) (by omega)
  clear e5
  cases b
  · go_enter Try.func94, Try.ntmps94
    go_wp2_with (go_at_call 91; refine (l01In_any _ _ _ _).mono ?_; rintro en wq ⟨rfl, rfl⟩)
    refine (sGcd_any _ _ _ (by omega) (by omega)).mono ?_
    rintro en wq ⟨rfl, k1, rfl⟩
    go_wp2_with fail
    refine (sGcd_any _ _ _ (by omega) (by omega)).mono ?_
    rintro en wq ⟨rfl, k2, rfl⟩
    obtain ⟨G, hG⟩ : ∃ G : Int, G = ((Int.gcd ((Int.gcd (n * n - m * m) (2 * m * n) : Nat) : Int) (n * n + m * m) : Nat) : Int) := ⟨_, rfl⟩
    rw [← hG] at g2 ⊢
    clear hG q1
    obtain ⟨G1, hG1⟩ : ∃ G : Int, G = ((Int.gcd (n * n - m * m) (2 * m * n) : Nat) : Int) := ⟨_, rfl⟩
    rw [← hG1]
    rw [← hG1] at g1
    clear hG1
    have b1 : 1 ≤ n * n - m * m ∧ n * n - m * m ≤ 440 := by omega
    have b3 : 1 ≤ n * n + m * m ∧ n * n + m * m ≤ 1000 := by omega
    generalize n * n - m * m = p at b1 ⊢
    generalize n * n + m * m = r at b3 ⊢
    generalize 2 * m * n = q at m6 ⊢
    have z0 : ¬ G = 0 := by omega
    have z1 : (G == 0) = false := by simpa using z0
    have t1 := tdiv_bd (a := p) (b := G) (M := 1000) (by omega)
    have t2 := tdiv_bd (a := q) (b := G) (M := 1000) (by omega)
    have t3 := tdiv_bd (a := r) (b := G) (M := 1000) (by omega)
    go_wp2
    go_region
    all_goals go_wp2
    all_goals refine bodyPost_ret (v := .tuple #[.agg #[.int .i64 (p.tdiv G), .int .i64 (-(q.tdiv G)), .int .i64 (r.tdiv G)], .int .i64 0]) (by simp [results, Try.results94, go_sem]) rfl ⟨_, _, _, _, rfl, ?_⟩
    all_goals repeat (first | exact Below.refl _ _ | refine Below.drew ?_ | refine below_drewN ?_ _ | (refine Below.alloc ?_ ?_ _; rotate_left; ((try simp only [World.size_alloc, World.size_drew, size_drewN, World.size_setCell]); omega)) | (refine Below.setCell ?_ ?_ _; rotate_left; ((try dsimp only); omega)))
  · go_enter Try.func94, Try.ntmps94
    go_wp2_with (go_at_call 91; refine (l01In_any _ _ _ _).mono ?_; rintro en wq ⟨rfl, rfl⟩)
    refine (sGcd_any _ _ _ (by omega) (by omega)).mono ?_
    rintro en wq ⟨rfl, k1, rfl⟩
    go_wp2_with fail
    refine (sGcd_any _ _ _ (by omega) (by omega)).mono ?_
    rintro en wq ⟨rfl, k2, rfl⟩
    obtain ⟨G, hG⟩ : ∃ G : Int, G = ((Int.gcd ((Int.gcd (n * n - m * m) (2 * m * n) : Nat) : Int) (n * n + m * m) : Nat) : Int) := ⟨_, rfl⟩
    rw [← hG] at g2 ⊢
    clear hG q1
    obtain ⟨G1, hG1⟩ : ∃ G : Int, G = ((Int.gcd (n * n - m * m) (2 * m * n) : Nat) : Int) := ⟨_, rfl⟩
    rw [← hG1]
    rw [← hG1] at g1
    clear hG1
    have b1 : 1 ≤ n * n - m * m ∧ n * n - m * m ≤ 440 := by omega
    have b3 : 1 ≤ n * n + m * m ∧ n * n + m * m ≤ 1000 := by omega
    generalize n * n - m * m = p at b1 ⊢
    generalize n * n + m * m = r at b3 ⊢
    generalize 2 * m * n = q at m6 ⊢
    have z0 : ¬ G = 0 := by omega
    have z1 : (G == 0) = false := by simpa using z0
    have t1 := tdiv_bd (a := p) (b := G) (M := 1000) (by omega)
    have t2 := tdiv_bd (a := q) (b := G) (M := 1000) (by omega)
    have t3 := tdiv_bd (a := r) (b := G) (M := 1000) (by omega)
    go_wp2
    go_region
    all_goals go_wp2
    all_goals refine bodyPost_ret (v := .tuple #[.agg #[.int .i64 (p.tdiv G), .int .i64 ((q.tdiv G)), .int .i64 (r.tdiv G)], .int .i64 0]) (by simp [results, Try.results94, go_sem]) rfl ⟨_, _, _, _, rfl, ?_⟩
    all_goals repeat (first | exact Below.refl _ _ | refine Below.drew ?_ | refine below_drewN ?_ _ | (refine Below.alloc ?_ ?_ _; rotate_left; ((try simp only [World.size_alloc, World.size_drew, size_drewN, World.size_setCell]); omega)) | (refine Below.setCell ?_ ?_ _; rotate_left; ((try dsimp only); omega)))
set_option maxRecDepth 100000 in
set_option maxHeartbeats 8000000 in
theorem dDir_any (s : Nat) (w : World) (h : Src w s) : Calls Try.prog 70 #[.pointer (some ⟨s, 0, none⟩)] w (DirPost s w) := by
  go_enter Try.func70, Try.ntmps70
  have ls0 : s < w.heap.size := h.lt
  go_wp2_with fail
  refine (next_any s _ _ (by repeat (first | with_reducible exact h | with_reducible refine Src.alloc ?_ _ | with_reducible refine Src.set ?_ (by omega) (by omega) | with_reducible refine Src.drewN ?_ _ | with_reducible refine Src.drew ?_))).mono ?_
  rintro en w1 ⟨n0, rfl, a1, b1, hS1, hg1⟩
  have hT1 : Gs s w w1 := Gs.trans (by repeat (first | with_reducible exact Gs.refl _ _ | with_reducible exact Gs.refl _ _ | with_reducible refine Gs.alloc ?_ _ | with_reducible refine Gs.set_new ?_ (by omega) | with_reducible refine Gs.drewN ?_ _ | with_reducible refine Gs.drew ?_)) hg1
  have f1 : w1.cell? ⟨w.heap.size, 0, none⟩ = some (.int .i64 0) := hg1.cell2 (by first | (go_simp; done) | go_keep) (by (try dsimp only); omega)
  have z1 : w1.frozen? ⟨w.heap.size, 0, none⟩ = false := hg1.frozen2 (v := .int .i64 0) (by first | (go_simp; done) | go_keep) (by (try dsimp only); omega) (by first | (go_simp; done) | go_keep)
  have f2 : w1.cell? ⟨w.heap.size, 1, none⟩ = some (.int .i64 0) := hg1.cell2 (by first | (go_simp; done) | go_keep) (by (try dsimp only); omega)
  have z2 : w1.frozen? ⟨w.heap.size, 1, none⟩ = false := hg1.frozen2 (v := .int .i64 0) (by first | (go_simp; done) | go_keep) (by (try dsimp only); omega) (by first | (go_simp; done) | go_keep)
  have f3 : w1.cell? ⟨w.heap.size, 2, none⟩ = some (.int .i64 0) := hg1.cell2 (by first | (go_simp; done) | go_keep) (by (try dsimp only); omega)
  have z3 : w1.frozen? ⟨w.heap.size, 2, none⟩ = false := hg1.frozen2 (v := .int .i64 0) (by first | (go_simp; done) | go_keep) (by (try dsimp only); omega) (by first | (go_simp; done) | go_keep)
  have l4 : w.heap.size < w1.heap.size := World.block_lt_of_cell? _ _ f1
  have hZ1 := hT1.size
  have ls1 := hS1.lt
  have hn0 : 0 ≤ n0 ∧ n0 ≤ 19 := by omega
  clear a1 b1
  go_wp2_with fail
  refine (pick_any s _ 3 3 [3, 2, (2 + n0 - 1)] _ (by repeat (first | with_reducible exact hS1 | with_reducible refine Src.alloc ?_ _ | with_reducible refine Src.set ?_ (by omega) (by omega) | with_reducible refine Src.drewN ?_ _ | with_reducible refine Src.drew ?_)) rfl (by decide) (by decide) (Rd.new2 _ _ [3, 2, (2 + n0 - 1)] (by first | (simp only [World.size_alloc]; done) | (go_size; done))) (fun b off e => by cases e; omega)).mono ?_
  rintro en w2 ⟨pk, rfl, hpk, hS2, hg2⟩
  have hT2 : Gs s w w2 := Gs.trans (by repeat (first | with_reducible exact hT1 | with_reducible exact Gs.refl _ _ | with_reducible refine Gs.alloc ?_ _ | with_reducible refine Gs.set_new ?_ (by omega) | with_reducible refine Gs.drewN ?_ _ | with_reducible refine Gs.drew ?_)) hg2
  have f5 : w2.cell? ⟨w.heap.size, 0, none⟩ = some (.int .i64 0) := hg2.cell2 (by first | (go_simp; done) | exact later (by repeat (first | exact Below.refl _ _ | refine Below.alloc ?_ (by (try simp only [World.size_alloc]); omega) _)) f1 | go_keep) (by (try dsimp only); omega)
  have z5 : w2.frozen? ⟨w.heap.size, 0, none⟩ = false := hg2.frozen2 (v := .int .i64 0) (by first | (go_simp; done) | exact later (by repeat (first | exact Below.refl _ _ | refine Below.alloc ?_ (by (try simp only [World.size_alloc]); omega) _)) f1 | go_keep) (by (try dsimp only); omega) (by first | (go_simp; done) | exact laterF (by repeat (first | exact Below.refl _ _ | refine Below.alloc ?_ (by (try simp only [World.size_alloc]); omega) _)) f1 z1 | go_keep)
  clear f1 z1
  have f6 : w2.cell? ⟨w.heap.size, 1, none⟩ = some (.int .i64 0) := hg2.cell2 (by first | (go_simp; done) | exact later (by repeat (first | exact Below.refl _ _ | refine Below.alloc ?_ (by (try simp only [World.size_alloc]); omega) _)) f2 | go_keep) (by (try dsimp only); omega)
  have z6 : w2.frozen? ⟨w.heap.size, 1, none⟩ = false := hg2.frozen2 (v := .int .i64 0) (by first | (go_simp; done) | exact later (by repeat (first | exact Below.refl _ _ | refine Below.alloc ?_ (by (try simp only [World.size_alloc]); omega) _)) f2 | go_keep) (by (try dsimp only); omega) (by first | (go_simp; done) | exact laterF (by repeat (first | exact Below.refl _ _ | refine Below.alloc ?_ (by (try simp only [World.size_alloc]); omega) _)) f2 z2 | go_keep)
  clear f2 z2
  have f7 : w2.cell? ⟨w.heap.size, 2, none⟩ = some (.int .i64 0) := hg2.cell2 (by first | (go_simp; done) | exact later (by repeat (first | exact Below.refl _ _ | refine Below.alloc ?_ (by (try simp only [World.size_alloc]); omega) _)) f3 | go_keep) (by (try dsimp only); omega)
  have z7 : w2.frozen? ⟨w.heap.size, 2, none⟩ = false := hg2.frozen2 (v := .int .i64 0) (by first | (go_simp; done) | exact later (by repeat (first | exact Below.refl _ _ | refine Below.alloc ?_ (by (try simp only [World.size_alloc]); omega) _)) f3 | go_keep) (by (try dsimp only); omega) (by first | (go_simp; done) | exact laterF (by repeat (first | exact Below.refl _ _ | refine Below.alloc ?_ (by (try simp only [World.size_alloc]); omega) _)) f3 z3 | go_keep)
  clear f3 z3
  have l8 : w.heap.size < w2.heap.size := World.block_lt_of_cell? _ _ f5
  have hZ2 := hT2.size
  have ls2 := hS2.lt
  have hpk2 : pk ≤ 20 := by simp at hpk; omega
  clear hpk
  go_wp2_with fail
  refine (next_any s _ _ (by repeat (first | with_reducible exact hS2 | with_reducible refine Src.alloc ?_ _ | with_reducible refine Src.set ?_ (by omega) (by omega) | with_reducible refine Src.drewN ?_ _ | with_reducible refine Src.drew ?_))).mono ?_
  rintro en w3 ⟨x2, rfl, a2, b2, hS3, hg3⟩
  have hT3 : Gs s w w3 := Gs.trans (by repeat (first | with_reducible exact hT2 | with_reducible exact Gs.refl _ _ | with_reducible refine Gs.alloc ?_ _ | with_reducible refine Gs.set_new ?_ (by omega) | with_reducible refine Gs.drewN ?_ _ | with_reducible refine Gs.drew ?_)) hg3
  have f9 : w3.cell? ⟨w.heap.size, 0, none⟩ = some (.int .i64 0) := hg3.cell2 (by first | (go_simp; done) | exact later (by repeat (first | exact Below.refl _ _ | refine Below.alloc ?_ (by (try simp only [World.size_alloc]); omega) _)) f5 | go_keep) (by (try dsimp only); omega)
  have z9 : w3.frozen? ⟨w.heap.size, 0, none⟩ = false := hg3.frozen2 (v := .int .i64 0) (by first | (go_simp; done) | exact later (by repeat (first | exact Below.refl _ _ | refine Below.alloc ?_ (by (try simp only [World.size_alloc]); omega) _)) f5 | go_keep) (by (try dsimp only); omega) (by first | (go_simp; done) | exact laterF (by repeat (first | exact Below.refl _ _ | refine Below.alloc ?_ (by (try simp only [World.size_alloc]); omega) _)) f5 z5 | go_keep)
  clear f5 z5
  have f10 : w3.cell? ⟨w.heap.size, 1, none⟩ = some (.int .i64 0) := hg3.cell2 (by first | (go_simp; done) | exact later (by repeat (first | exact Below.refl _ _ | refine Below.alloc ?_ (by (try simp only [World.size_alloc]); omega) _)) f6 | go_keep) (by (try dsimp only); omega)
  have z10 : w3.frozen? ⟨w.heap.size, 1, none⟩ = false := hg3.frozen2 (v := .int .i64 0) (by first | (go_simp; done) | exact later (by repeat (first | exact Below.refl _ _ | refine Below.alloc ?_ (by (try simp only [World.size_alloc]); omega) _)) f6 | go_keep) (by (try dsimp only); omega) (by first | (go_simp; done) | exact laterF (by repeat (first | exact Below.refl _ _ | refine Below.alloc ?_ (by (try simp only [World.size_alloc]); omega) _)) f6 z6 | go_keep)
  clear f6 z6
  have f11 : w3.cell? ⟨w.heap.size, 2, none⟩ = some (.int .i64 0) := hg3.cell2 (by first | (go_simp; done) | exact later (by repeat (first | exact Below.refl _ _ | refine Below.alloc ?_ (by (try simp only [World.size_alloc]); omega) _)) f7 | go_keep) (by (try dsimp only); omega)
  have z11 : w3.frozen? ⟨w.heap.size, 2, none⟩ = false := hg3.frozen2 (v := .int .i64 0) (by first | (go_simp; done) | exact later (by repeat (first | exact Below.refl _ _ | refine Below.alloc ?_ (by (try simp only [World.size_alloc]); omega) _)) f7 | go_keep) (by (try dsimp only); omega) (by first | (go_simp; done) | exact laterF (by repeat (first | exact Below.refl _ _ | refine Below.alloc ?_ (by (try simp only [World.size_alloc]); omega) _)) f7 z7 | go_keep)
  clear f7 z7
  have l12 : w.heap.size < w3.heap.size := World.block_lt_of_cell? _ _ f9
  have hZ3 := hT3.size
  have ls3 := hS3.lt
  have hx2 : x2 ≤ 19 := by omega
  rcases Int.lt_trichotomy (1 + x2) (2 + n0 - 1) with h8 | h8 | h8
  all_goals
    clear b2
    go_wp2_with fail
    refine (next_any s _ _ (by repeat (first | with_reducible exact hS3 | with_reducible refine Src.alloc ?_ _ | with_reducible refine Src.set ?_ (by omega) (by omega) | with_reducible refine Src.drewN ?_ _ | with_reducible refine Src.drew ?_))).mono ?_
    rintro en w4 ⟨x3, rfl, a3, b3, hS4, hg4⟩
    have hT4 : Gs s w w4 := Gs.trans (by repeat (first | with_reducible exact hT3 | with_reducible exact Gs.refl _ _ | with_reducible refine Gs.alloc ?_ _ | with_reducible refine Gs.set_new ?_ (by omega) | with_reducible refine Gs.drewN ?_ _ | with_reducible refine Gs.drew ?_)) hg4
    have f13 : w4.cell? ⟨w.heap.size, 0, none⟩ = some (.int .i64 0) := hg4.cell2 (by first | (go_simp; done) | exact later (by repeat (first | exact Below.refl _ _ | refine Below.alloc ?_ (by (try simp only [World.size_alloc]); omega) _)) f9 | go_keep) (by (try dsimp only); omega)
    have z13 : w4.frozen? ⟨w.heap.size, 0, none⟩ = false := hg4.frozen2 (v := .int .i64 0) (by first | (go_simp; done) | exact later (by repeat (first | exact Below.refl _ _ | refine Below.alloc ?_ (by (try simp only [World.size_alloc]); omega) _)) f9 | go_keep) (by (try dsimp only); omega) (by first | (go_simp; done) | exact laterF (by repeat (first | exact Below.refl _ _ | refine Below.alloc ?_ (by (try simp only [World.size_alloc]); omega) _)) f9 z9 | go_keep)
    clear f9 z9
    have f14 : w4.cell? ⟨w.heap.size, 1, none⟩ = some (.int .i64 0) := hg4.cell2 (by first | (go_simp; done) | exact later (by repeat (first | exact Below.refl _ _ | refine Below.alloc ?_ (by (try simp only [World.size_alloc]); omega) _)) f10 | go_keep) (by (try dsimp only); omega)
    have z14 : w4.frozen? ⟨w.heap.size, 1, none⟩ = false := hg4.frozen2 (v := .int .i64 0) (by first | (go_simp; done) | exact later (by repeat (first | exact Below.refl _ _ | refine Below.alloc ?_ (by (try simp only [World.size_alloc]); omega) _)) f10 | go_keep) (by (try dsimp only); omega) (by first | (go_simp; done) | exact laterF (by repeat (first | exact Below.refl _ _ | refine Below.alloc ?_ (by (try simp only [World.size_alloc]); omega) _)) f10 z10 | go_keep)
    clear f10 z10
    have f15 : w4.cell? ⟨w.heap.size, 2, none⟩ = some (.int .i64 0) := hg4.cell2 (by first | (go_simp; done) | exact later (by repeat (first | exact Below.refl _ _ | refine Below.alloc ?_ (by (try simp only [World.size_alloc]); omega) _)) f11 | go_keep) (by (try dsimp only); omega)
    have z15 : w4.frozen? ⟨w.heap.size, 2, none⟩ = false := hg4.frozen2 (v := .int .i64 0) (by first | (go_simp; done) | exact later (by repeat (first | exact Below.refl _ _ | refine Below.alloc ?_ (by (try simp only [World.size_alloc]); omega) _)) f11 | go_keep) (by (try dsimp only); omega) (by first | (go_simp; done) | exact laterF (by repeat (first | exact Below.refl _ _ | refine Below.alloc ?_ (by (try simp only [World.size_alloc]); omega) _)) f11 z11 | go_keep)
    clear f11 z11
    have l16 : w.heap.size < w4.heap.size := World.block_lt_of_cell? _ _ f13
    have hZ4 := hT4.size
    have ls4 := hS4.lt
    clear a3 b3
    go_wp2_with fail
    refine (mkdir_any _ _ _ _ (by omega) (by omega)).mono ?_
    rintro en w5 ⟨x, y, z, k, rfl, hb5⟩
    have hS5 : Src w5 s := Src.below (by repeat (first | with_reducible exact hS4 | with_reducible refine Src.alloc ?_ _ | with_reducible refine Src.set ?_ (by omega) (by omega) | with_reducible refine Src.drewN ?_ _ | with_reducible refine Src.drew ?_)) hb5
    have hT5 : Gs s w w5 := Gs.trans (by repeat (first | with_reducible exact hT4 | with_reducible exact Gs.refl _ _ | with_reducible refine Gs.alloc ?_ _ | with_reducible refine Gs.set_new ?_ (by omega) | with_reducible refine Gs.drewN ?_ _ | with_reducible refine Gs.drew ?_)) (Gs.of_below hb5)
    have f17 : w5.cell? ⟨w.heap.size, 0, none⟩ = some (.int .i64 0) := later hb5 (by first | go_simp | go_keep)
    have z17 : w5.frozen? ⟨w.heap.size, 0, none⟩ = false := laterF (v := .int .i64 0) hb5 (by first | go_simp | go_keep) (by first | go_simp | go_keep)
    clear f13 z13
    have f18 : w5.cell? ⟨w.heap.size, 1, none⟩ = some (.int .i64 0) := later hb5 (by first | go_simp | go_keep)
    have z18 : w5.frozen? ⟨w.heap.size, 1, none⟩ = false := laterF (v := .int .i64 0) hb5 (by first | go_simp | go_keep) (by first | go_simp | go_keep)
    clear f14 z14
    have f19 : w5.cell? ⟨w.heap.size, 2, none⟩ = some (.int .i64 0) := later hb5 (by first | go_simp | go_keep)
    have z19 : w5.frozen? ⟨w.heap.size, 2, none⟩ = false := laterF (v := .int .i64 0) hb5 (by first | go_simp | go_keep) (by first | go_simp | go_keep)
    clear f15 z15
    have l20 : w.heap.size < w5.heap.size := World.block_lt_of_cell? _ _ f17
    have hZ5 := hT5.size
    have ls5 := hS5.lt
    go_wp2_with fail
    refine (next_any s _ _ (by repeat (first | with_reducible exact hS5 | with_reducible refine Src.alloc ?_ _ | with_reducible refine Src.set ?_ (by omega) (by omega) | with_reducible refine Src.drewN ?_ _ | with_reducible refine Src.drew ?_))).mono ?_
    rintro en w6 ⟨sw, rfl, a4, b4, hS6, hg6⟩
    have hT6 : Gs s w w6 := Gs.trans (by repeat (first | with_reducible exact hT5 | with_reducible exact Gs.refl _ _ | with_reducible refine Gs.alloc ?_ _ | with_reducible refine Gs.set_new ?_ (by omega) | with_reducible refine Gs.drewN ?_ _ | with_reducible refine Gs.drew ?_)) hg6
    have f21 : w6.cell? ⟨w.heap.size, 0, none⟩ = some (.int .i64 0) := hg6.cell2 (by first | (go_simp; done) | exact later (by repeat (first | exact Below.refl _ _ | refine Below.alloc ?_ (by (try simp only [World.size_alloc]); omega) _)) f17 | go_keep) (by (try dsimp only); omega)
    have z21 : w6.frozen? ⟨w.heap.size, 0, none⟩ = false := hg6.frozen2 (v := .int .i64 0) (by first | (go_simp; done) | exact later (by repeat (first | exact Below.refl _ _ | refine Below.alloc ?_ (by (try simp only [World.size_alloc]); omega) _)) f17 | go_keep) (by (try dsimp only); omega) (by first | (go_simp; done) | exact laterF (by repeat (first | exact Below.refl _ _ | refine Below.alloc ?_ (by (try simp only [World.size_alloc]); omega) _)) f17 z17 | go_keep)
    clear f17 z17
    have f22 : w6.cell? ⟨w.heap.size, 1, none⟩ = some (.int .i64 0) := hg6.cell2 (by first | (go_simp; done) | exact later (by repeat (first | exact Below.refl _ _ | refine Below.alloc ?_ (by (try simp only [World.size_alloc]); omega) _)) f18 | go_keep) (by (try dsimp only); omega)
    have z22 : w6.frozen? ⟨w.heap.size, 1, none⟩ = false := hg6.frozen2 (v := .int .i64 0) (by first | (go_simp; done) | exact later (by repeat (first | exact Below.refl _ _ | refine Below.alloc ?_ (by (try simp only [World.size_alloc]); omega) _)) f18 | go_keep) (by (try dsimp only); omega) (by first | (go_simp; done) | exact laterF (by repeat (first | exact Below.refl _ _ | refine Below.alloc ?_ (by (try simp only [World.size_alloc]); omega) _)) f18 z18 | go_keep)
    clear f18 z18
    have f23 : w6.cell? ⟨w.heap.size, 2, none⟩ = some (.int .i64 0) := hg6.cell2 (by first | (go_simp; done) | exact later (by repeat (first | exact Below.refl _ _ | refine Below.alloc ?_ (by (try simp only [World.size_alloc]); omega) _)) f19 | go_keep) (by (try dsimp only); omega)
    have z23 : w6.frozen? ⟨w.heap.size, 2, none⟩ = false := hg6.frozen2 (v := .int .i64 0) (by first | (go_simp; done) | exact later (by repeat (first | exact Below.refl _ _ | refine Below.alloc ?_ (by (try simp only [World.size_alloc]); omega) _)) f19 | go_keep) (by (try dsimp only); omega) (by first | (go_simp; done) | exact laterF (by repeat (first | exact Below.refl _ _ | refine Below.alloc ?_ (by (try simp only [World.size_alloc]); omega) _)) f19 z19 | go_keep)
    clear f19 z19
    have f24 : w6.cell? ⟨w5.heap.size, 0, none⟩ = some (.int .i64 x) := hg6.cell2 (by first | (go_simp; done) | go_keep) (by (try dsimp only); omega)
    have z24 : w6.frozen? ⟨w5.heap.size, 0, none⟩ = false := hg6.frozen2 (v := .int .i64 x) (by first | (go_simp; done) | go_keep) (by (try dsimp only); omega) (by first | (go_simp; done) | go_keep)
    have f25 : w6.cell? ⟨w5.heap.size, 1, none⟩ = some (.int .i64 y) := hg6.cell2 (by first | (go_simp; done) | go_keep) (by (try dsimp only); omega)
    have z25 : w6.frozen? ⟨w5.heap.size, 1, none⟩ = false := hg6.frozen2 (v := .int .i64 y) (by first | (go_simp; done) | go_keep) (by (try dsimp only); omega) (by first | (go_simp; done) | go_keep)
    have f26 : w6.cell? ⟨w5.heap.size, 2, none⟩ = some (.int .i64 z) := hg6.cell2 (by first | (go_simp; done) | go_keep) (by (try dsimp only); omega)
    have z26 : w6.frozen? ⟨w5.heap.size, 2, none⟩ = false := hg6.frozen2 (v := .int .i64 z) (by first | (go_simp; done) | go_keep) (by (try dsimp only); omega) (by first | (go_simp; done) | go_keep)
    have l27 : w.heap.size < w6.heap.size := World.block_lt_of_cell? _ _ f21
    have l28 : w5.heap.size < w6.heap.size := World.block_lt_of_cell? _ _ f24
    have hZ6 := hT6.size
    have ls6 := hS6.lt
    clear a4 b4
    by_cases e0 : sw = 0
    · have f0 : (sw == 0) = true := by simpa using e0
      clear e0
      have n29 : ¬ w.heap.size = w5.heap.size := (by omega)
      have n30 : ¬ w5.heap.size = w.heap.size := (by omega)
      go_wp2
      refine bodyPost_ret (v := .agg #[.int .i64 (wrap64 (2 * x)), .int .i64 (wrap64 (2 * y)), .int .i64 (wrap64 (2 * z))]) (by simp [results, Try.results70, go_sem, f21, f22, f23, f24, f25, f26, z21, z22, z23, z24, z25, z26, n29, n30]) rfl ⟨(wrap64 (2 * x)), (wrap64 (2 * y)), (wrap64 (2 * z)), rfl, (by repeat (first | with_reducible exact hS6 | with_reducible refine Src.alloc ?_ _ | with_reducible refine Src.set ?_ (by omega) (by omega) | with_reducible refine Src.drewN ?_ _ | with_reducible refine Src.drew ?_)), (by repeat (first | with_reducible exact hT6 | with_reducible exact Gs.refl _ _ | with_reducible refine Gs.alloc ?_ _ | with_reducible refine Gs.set_new ?_ (by omega) | with_reducible refine Gs.drewN ?_ _ | with_reducible refine Gs.drew ?_))⟩
    · have f0 : (sw == 0) = false := by simpa using e0
      clear e0
      by_cases e1 : sw = 1
      · have f1 : (sw == 1) = true := by simpa using e1
        clear e1
        have n29 : ¬ w.heap.size = w5.heap.size := (by omega)
        have n30 : ¬ w5.heap.size = w.heap.size := (by omega)
        go_wp2
        refine bodyPost_ret (v := .agg #[.int .i64 x, .int .i64 (wrap64 (y + 1)), .int .i64 z]) (by simp [results, Try.results70, go_sem, f21, f22, f23, f24, f25, f26, z21, z22, z23, z24, z25, z26, n29, n30]) rfl ⟨x, (wrap64 (y + 1)), z, rfl, (by repeat (first | with_reducible exact hS6 | with_reducible refine Src.alloc ?_ _ | with_reducible refine Src.set ?_ (by omega) (by omega) | with_reducible refine Src.drewN ?_ _ | with_reducible refine Src.drew ?_)), (by repeat (first | with_reducible exact hT6 | with_reducible exact Gs.refl _ _ | with_reducible refine Gs.alloc ?_ _ | with_reducible refine Gs.set_new ?_ (by omega) | with_reducible refine Gs.drewN ?_ _ | with_reducible refine Gs.drew ?_))⟩
      · have f1 : (sw == 1) = false := by simpa using e1
        clear e1
        by_cases e2 : sw = 2
        · have f2 : (sw == 2) = true := by simpa using e2
          clear e2
          have n29 : ¬ w.heap.size = w5.heap.size := (by omega)
          have n30 : ¬ w5.heap.size = w.heap.size := (by omega)
          go_wp2
          refine bodyPost_ret (v := .agg #[.int .i64 1, .int .i64 0, .int .i64 1]) (by simp [results, Try.results70, go_sem, f21, f22, f23, f24, f25, f26, z21, z22, z23, z24, z25, z26, n29, n30]) rfl ⟨1, 0, 1, rfl, (by repeat (first | with_reducible exact hS6 | with_reducible refine Src.alloc ?_ _ | with_reducible refine Src.set ?_ (by omega) (by omega) | with_reducible refine Src.drewN ?_ _ | with_reducible refine Src.drew ?_)), (by repeat (first | with_reducible exact hT6 | with_reducible exact Gs.refl _ _ | with_reducible refine Gs.alloc ?_ _ | with_reducible refine Gs.set_new ?_ (by omega) | with_reducible refine Gs.drewN ?_ _ | with_reducible refine Gs.drew ?_))⟩
        · have f2 : (sw == 2) = false := by simpa using e2
          clear e2
          have n29 : ¬ w.heap.size = w5.heap.size := (by omega)
          have n30 : ¬ w5.heap.size = w.heap.size := (by omega)
          go_wp2
          refine bodyPost_ret (v := .agg #[.int .i64 x, .int .i64 y, .int .i64 z]) (by simp [results, Try.results70, go_sem, f21, f22, f23, f24, f25, f26, z21, z22, z23, z24, z25, z26, n29, n30]) rfl ⟨x, y, z, rfl, (by repeat (first | with_reducible exact hS6 | with_reducible refine Src.alloc ?_ _ | with_reducible refine Src.set ?_ (by omega) (by omega) | with_reducible refine Src.drewN ?_ _ | with_reducible refine Src.drew ?_)), (by repeat (first | with_reducible exact hT6 | with_reducible exact Gs.refl _ _ | with_reducible refine Gs.alloc ?_ _ | with_reducible refine Gs.set_new ?_ (by omega) | with_reducible refine Gs.drewN ?_ _ | with_reducible refine Gs.drew ?_))⟩
end Go.Proofs.Ytfmhbphbgdijpaa
