/- the law, walked: ClosestTime -/
import Derived.Test.YtoccglmlpobeeaaW16
import Derived.Test.YtoccglmlpobeeaaW14
set_option linter.unusedVariables false
set_option linter.unusedSimpArgs false
namespace Go.Proofs.Ytoccglmlpobeeaa
open Go.RowKit

theorem eqRatio_any (x y : Int) (w : World) :
    Calls Try.prog 57 #[.agg #[.int .i64 x, .int .i64 y], .agg #[.int .i64 x, .int .i64 y]] w fun en w9 => en = .returned (.bool true) ∧ Below w.heap.size w w9 := by
  go_enter Try.func57, Try.ntmps57
  go_wp2
  go_ret
  exact ⟨rfl, by go_grown⟩
set_option maxHeartbeats 32000000 in
theorem lawCT_any (p q r s t u v z : Int) (w : World) :
    Calls Try.prog 15 #[.agg #[.int .i64 p, .int .i64 q, .int .i64 r, .int .i64 s], .agg #[.int .i64 t, .int .i64 u, .int .i64 v, .int .i64 z]] w fun en w9 => en = .returned (.bool true) ∧ Below w.heap.size w w9 := by
  go_enter Try.func15, Try.ntmps15
  go_upto_region 1 with fail
  have hB1 : Below w.heap.size w ((w.alloc (Obj.cells #[Value.int .i64 p, Value.int .i64 q, Value.int .i64 r, Value.int .i64 s] 49)).alloc (Obj.cells #[Value.int .i64 t, Value.int .i64 u, Value.int .i64 v, Value.int .i64 z] 49)) := by repeat (first | exact Below.refl _ _ | refine Below.drew ?_ | refine below_drewN ?_ _ | refine Below.alloc ?_ (by (try simp only [World.size_alloc, World.size_drew, size_drewN, World.size_setCell]); omega) _ | refine Below.setCell ?_ (by (try dsimp only); omega) _)
  have f1 : ((w.alloc (Obj.cells #[Value.int .i64 p, Value.int .i64 q, Value.int .i64 r, Value.int .i64 s] 49)).alloc (Obj.cells #[Value.int .i64 t, Value.int .i64 u, Value.int .i64 v, Value.int .i64 z] 49)).cell? ⟨w.heap.size, 0, none⟩ = some (.int .i64 p) := by go_simp
  have f2 : ((w.alloc (Obj.cells #[Value.int .i64 p, Value.int .i64 q, Value.int .i64 r, Value.int .i64 s] 49)).alloc (Obj.cells #[Value.int .i64 t, Value.int .i64 u, Value.int .i64 v, Value.int .i64 z] 49)).cell? ⟨w.heap.size, 1, none⟩ = some (.int .i64 q) := by go_simp
  have f3 : ((w.alloc (Obj.cells #[Value.int .i64 p, Value.int .i64 q, Value.int .i64 r, Value.int .i64 s] 49)).alloc (Obj.cells #[Value.int .i64 t, Value.int .i64 u, Value.int .i64 v, Value.int .i64 z] 49)).cell? ⟨w.heap.size, 2, none⟩ = some (.int .i64 r) := by go_simp
  have f4 : ((w.alloc (Obj.cells #[Value.int .i64 p, Value.int .i64 q, Value.int .i64 r, Value.int .i64 s] 49)).alloc (Obj.cells #[Value.int .i64 t, Value.int .i64 u, Value.int .i64 v, Value.int .i64 z] 49)).cell? ⟨w.heap.size, 3, none⟩ = some (.int .i64 s) := by go_simp
  have f5 : ((w.alloc (Obj.cells #[Value.int .i64 p, Value.int .i64 q, Value.int .i64 r, Value.int .i64 s] 49)).alloc (Obj.cells #[Value.int .i64 t, Value.int .i64 u, Value.int .i64 v, Value.int .i64 z] 49)).cell? ⟨w.heap.size + 1, 0, none⟩ = some (.int .i64 t) := by go_simp
  have f6 : ((w.alloc (Obj.cells #[Value.int .i64 p, Value.int .i64 q, Value.int .i64 r, Value.int .i64 s] 49)).alloc (Obj.cells #[Value.int .i64 t, Value.int .i64 u, Value.int .i64 v, Value.int .i64 z] 49)).cell? ⟨w.heap.size + 1, 1, none⟩ = some (.int .i64 u) := by go_simp
  have f7 : ((w.alloc (Obj.cells #[Value.int .i64 p, Value.int .i64 q, Value.int .i64 r, Value.int .i64 s] 49)).alloc (Obj.cells #[Value.int .i64 t, Value.int .i64 u, Value.int .i64 v, Value.int .i64 z] 49)).cell? ⟨w.heap.size + 1, 2, none⟩ = some (.int .i64 v) := by go_simp
  have f8 : ((w.alloc (Obj.cells #[Value.int .i64 p, Value.int .i64 q, Value.int .i64 r, Value.int .i64 s] 49)).alloc (Obj.cells #[Value.int .i64 t, Value.int .i64 u, Value.int .i64 v, Value.int .i64 z] 49)).cell? ⟨w.heap.size + 1, 3, none⟩ = some (.int .i64 z) := by go_simp
  generalize ((w.alloc (Obj.cells #[Value.int .i64 p, Value.int .i64 q, Value.int .i64 r, Value.int .i64 s] 49)).alloc (Obj.cells #[Value.int .i64 t, Value.int .i64 u, Value.int .i64 v, Value.int .i64 z] 49)) = w1 at hB1 f1 f2 f3 f4 f5 f6 f7 f8 ⊢
  have l9 : w.heap.size < w1.heap.size := World.block_lt_of_cell? _ _ f1
  have l10 : w.heap.size + 1 < w1.heap.size := World.block_lt_of_cell? _ _ f5
  have hZ1 := hB1.size
  
  have HTS : Hid (∀ X : World, Below w1.heap.size w1 X → X.cell? ⟨w.heap.size, 0, none⟩ = some (.int .i64 p) ∧ X.cell? ⟨w.heap.size, 1, none⟩ = some (.int .i64 q) ∧ X.cell? ⟨w.heap.size, 2, none⟩ = some (.int .i64 r) ∧ X.cell? ⟨w.heap.size, 3, none⟩ = some (.int .i64 s) ∧ X.cell? ⟨w.heap.size + 1, 0, none⟩ = some (.int .i64 t) ∧ X.cell? ⟨w.heap.size + 1, 1, none⟩ = some (.int .i64 u) ∧ X.cell? ⟨w.heap.size + 1, 2, none⟩ = some (.int .i64 v) ∧ X.cell? ⟨w.heap.size + 1, 3, none⟩ = some (.int .i64 z) ∧ Below w1.heap.size w1 X) := fun X hB => ⟨later hB f1, later hB f2, later hB f3, later hB f4, later hB f5, later hB f6, later hB f7, later hB f8, hB⟩
  go_upto_region 1 with fail
  go_cut [5, 6] (fun s5 s6 w9 => ∃ g : Nat, s5 = .pointer (some ⟨g, 0, none⟩) ∧ s6 = .int .i64 (onTr ctC 1 p q r s t u v z) ∧ w9.cell? ⟨g, 0, none⟩ = some (.int .i64 (onTr ctX 0 p q r s t u v z)) ∧ w9.cell? ⟨g, 1, none⟩ = some (.int .i64 (onTr ctY 0 p q r s t u v z)) ∧ w1.heap.size ≤ g ∧ Below w1.heap.size w1 w9)
  case first =>
    go_region_held3 (fun w9 => w9.cell? ⟨w.heap.size, 0, none⟩ = some (.int .i64 p) ∧ w9.cell? ⟨w.heap.size, 1, none⟩ = some (.int .i64 q) ∧ w9.cell? ⟨w.heap.size, 2, none⟩ = some (.int .i64 r) ∧ w9.cell? ⟨w.heap.size, 3, none⟩ = some (.int .i64 s) ∧ w9.cell? ⟨w.heap.size + 1, 0, none⟩ = some (.int .i64 t) ∧ w9.cell? ⟨w.heap.size + 1, 1, none⟩ = some (.int .i64 u) ∧ w9.cell? ⟨w.heap.size + 1, 2, none⟩ = some (.int .i64 v) ∧ w9.cell? ⟨w.heap.size + 1, 3, none⟩ = some (.int .i64 z) ∧ Below w1.heap.size w1 w9) (first | with_reducible assumption | exact HTS.out _ (by repeat (first | assumption | exact Below.refl _ _ | refine Below.drew ?_ | refine Below.alloc ?_ (by (try simp only [World.size_alloc, World.size_drew, World.size_setCell]); omega) _ | refine Below.setCell ?_ (by (try dsimp only); omega) _))) (first | (go_at_call 40; refine (toTrack_any _ _ _ _ _).mono ?_; rintro en wx ⟨rfl, hb⟩; have hB9 : Below w1.heap.size w1 wx := Below.trans (b := _) (by repeat (first | assumption | exact Below.refl _ _ | refine Below.drew ?_ | refine Below.alloc ?_ (by (try simp only [World.size_alloc, World.size_drew, World.size_setCell]); omega) _ | refine Below.setCell ?_ (by (try dsimp only); omega) _)) (hb.mono (by (try simp only [World.size_alloc, World.size_drew, World.size_setCell]); omega)); have hz9 := hB9.size; have hz8 := hb.size; (try simp only [World.size_alloc, World.size_drew, World.size_setCell] at hz8); (try have p6 := Nat.lt_of_lt_of_le p5 (by omega : _ ≤ wx.heap.size)); (try have p5 := Nat.lt_of_lt_of_le p4 (by omega : _ ≤ wx.heap.size)); (try have p4 := Nat.lt_of_lt_of_le p3 (by omega : _ ≤ wx.heap.size)); (try have p3 := Nat.lt_of_lt_of_le p2 (by omega : _ ≤ wx.heap.size)); (try have p2 := Nat.lt_of_lt_of_le p1 (by omega : _ ≤ wx.heap.size)); (try have p1 := Nat.lt_of_lt_of_le hz5 (by omega : _ ≤ wx.heap.size)); (try have p0 := Nat.lt_of_lt_of_le hz4 (by omega : _ ≤ wx.heap.size)); (try have hz7 : w1.heap.size < wx.heap.size := (by omega)); (try have hz6 : w1.heap.size + 1 < wx.heap.size := (by omega)); (try have hz5 := Nat.lt_of_succ_le hz8); (try have hz4 := Nat.lt_of_succ_lt hz5); obtain ⟨hc, hf⟩ := bcell hb; clear hb) | (go_at_call 55; refine (sCT_any _ _ _ _ _ _ _ _ _).mono ?_; rintro en wx ⟨rfl, hb⟩; have hB9 : Below w1.heap.size w1 wx := Below.trans (b := _) (by repeat (first | assumption | exact Below.refl _ _ | refine Below.drew ?_ | refine Below.alloc ?_ (by (try simp only [World.size_alloc, World.size_drew, World.size_setCell]); omega) _ | refine Below.setCell ?_ (by (try dsimp only); omega) _)) (hb.mono (by (try simp only [World.size_alloc, World.size_drew, World.size_setCell]); omega)); have hz9 := hB9.size; have hz8 := hb.size; (try simp only [World.size_alloc, World.size_drew, World.size_setCell] at hz8); (try have p6 := Nat.lt_of_lt_of_le p5 (by omega : _ ≤ wx.heap.size)); (try have p5 := Nat.lt_of_lt_of_le p4 (by omega : _ ≤ wx.heap.size)); (try have p4 := Nat.lt_of_lt_of_le p3 (by omega : _ ≤ wx.heap.size)); (try have p3 := Nat.lt_of_lt_of_le p2 (by omega : _ ≤ wx.heap.size)); (try have p2 := Nat.lt_of_lt_of_le p1 (by omega : _ ≤ wx.heap.size)); (try have p1 := Nat.lt_of_lt_of_le hz5 (by omega : _ ≤ wx.heap.size)); (try have p0 := Nat.lt_of_lt_of_le hz4 (by omega : _ ≤ wx.heap.size)); (try have hz7 : w1.heap.size < wx.heap.size := (by omega)); (try have hz6 : w1.heap.size + 1 < wx.heap.size := (by omega)); (try have hz5 := Nat.lt_of_succ_le hz8); (try have hz4 := Nat.lt_of_succ_lt hz5); obtain ⟨hc, hf⟩ := bcell hb; clear hb))
    all_goals (go_wp2_with fail; go_meet)
    all_goals refine ⟨_, rfl, rfl, ?_, ?_, ?_, (by repeat (first | assumption | exact Below.refl _ _ | refine Below.drew ?_ | refine Below.alloc ?_ (by (try simp only [World.size_alloc, World.size_drew, World.size_setCell]); omega) _ | refine Below.setCell ?_ (by (try dsimp only); omega) _))⟩
    all_goals (first | go_simp | skip)
    all_goals first | exact World.cell?_setCell_same' _ _ _ (by go_simp) | omega
  
  case rest =>
    obtain ⟨g, rfl, rfl, gc0, gc1, gs, hxwa⟩ := hcut
    clear HTS
    have hB2 := hxwa
    have f11 := later hB2 f1
    have f12 := later hB2 f2
    have f13 := later hB2 f3
    have f14 := later hB2 f4
    have f15 := later hB2 f5
    have f16 := later hB2 f6
    have f17 := later hB2 f7
    have f18 := later hB2 f8
    have l19 : g < wc.heap.size := World.block_lt_of_cell? _ _ gc0
    have l20 : w.heap.size < wc.heap.size := World.block_lt_of_cell? _ _ f11
    have l21 : w.heap.size + 1 < wc.heap.size := World.block_lt_of_cell? _ _ f15
    have hW2 := bseq hB1 (hB2)
    have hZ2 := hW2.size
    obtain ⟨wa, rfl⟩ : ∃ X : World, X = wc := ⟨_, rfl⟩
    
    have HTS : Hid (∀ X : World, Below wa.heap.size wa X → X.cell? ⟨w.heap.size, 0, none⟩ = some (.int .i64 p) ∧ X.cell? ⟨w.heap.size, 1, none⟩ = some (.int .i64 q) ∧ X.cell? ⟨w.heap.size, 2, none⟩ = some (.int .i64 r) ∧ X.cell? ⟨w.heap.size, 3, none⟩ = some (.int .i64 s) ∧ X.cell? ⟨w.heap.size + 1, 0, none⟩ = some (.int .i64 t) ∧ X.cell? ⟨w.heap.size + 1, 1, none⟩ = some (.int .i64 u) ∧ X.cell? ⟨w.heap.size + 1, 2, none⟩ = some (.int .i64 v) ∧ X.cell? ⟨w.heap.size + 1, 3, none⟩ = some (.int .i64 z) ∧ Below wa.heap.size wa X) := fun X hB => ⟨later hB f11, later hB f12, later hB f13, later hB f14, later hB f15, later hB f16, later hB f17, later hB f18, hB⟩
    go_upto_region 2 with fail
    go_cut [7, 8] (fun s7 s8 w9 => ∃ k : Nat, s7 = .pointer (some ⟨k, 0, none⟩) ∧ s8 = .int .i64 (onTr ctC 1 p q r s t u v z) ∧ w9.cell? ⟨k, 0, none⟩ = some (.int .i64 (onTr ctX 0 p q r s t u v z)) ∧ w9.cell? ⟨k, 1, none⟩ = some (.int .i64 (onTr ctY 0 p q r s t u v z)) ∧ wa.heap.size ≤ k ∧ Below wa.heap.size wa w9)
    case first =>
      go_region_held3 (fun w9 => w9.cell? ⟨w.heap.size, 0, none⟩ = some (.int .i64 p) ∧ w9.cell? ⟨w.heap.size, 1, none⟩ = some (.int .i64 q) ∧ w9.cell? ⟨w.heap.size, 2, none⟩ = some (.int .i64 r) ∧ w9.cell? ⟨w.heap.size, 3, none⟩ = some (.int .i64 s) ∧ w9.cell? ⟨w.heap.size + 1, 0, none⟩ = some (.int .i64 t) ∧ w9.cell? ⟨w.heap.size + 1, 1, none⟩ = some (.int .i64 u) ∧ w9.cell? ⟨w.heap.size + 1, 2, none⟩ = some (.int .i64 v) ∧ w9.cell? ⟨w.heap.size + 1, 3, none⟩ = some (.int .i64 z) ∧ Below wa.heap.size wa w9) (first | with_reducible assumption | exact HTS.out _ (by repeat (first | assumption | exact Below.refl _ _ | refine Below.drew ?_ | refine Below.alloc ?_ (by (try simp only [World.size_alloc, World.size_drew, World.size_setCell]); omega) _ | refine Below.setCell ?_ (by (try dsimp only); omega) _))) (first | (go_at_call 40; refine (toTrack_any _ _ _ _ _).mono ?_; rintro en wx ⟨rfl, hb⟩; have hB9 : Below wa.heap.size wa wx := Below.trans (b := _) (by repeat (first | assumption | exact Below.refl _ _ | refine Below.drew ?_ | refine Below.alloc ?_ (by (try simp only [World.size_alloc, World.size_drew, World.size_setCell]); omega) _ | refine Below.setCell ?_ (by (try dsimp only); omega) _)) (hb.mono (by (try simp only [World.size_alloc, World.size_drew, World.size_setCell]); omega)); have hz9 := hB9.size; have hz8 := hb.size; (try simp only [World.size_alloc, World.size_drew, World.size_setCell] at hz8); (try have p6 := Nat.lt_of_lt_of_le p5 (by omega : _ ≤ wx.heap.size)); (try have p5 := Nat.lt_of_lt_of_le p4 (by omega : _ ≤ wx.heap.size)); (try have p4 := Nat.lt_of_lt_of_le p3 (by omega : _ ≤ wx.heap.size)); (try have p3 := Nat.lt_of_lt_of_le p2 (by omega : _ ≤ wx.heap.size)); (try have p2 := Nat.lt_of_lt_of_le p1 (by omega : _ ≤ wx.heap.size)); (try have p1 := Nat.lt_of_lt_of_le hz5 (by omega : _ ≤ wx.heap.size)); (try have p0 := Nat.lt_of_lt_of_le hz4 (by omega : _ ≤ wx.heap.size)); (try have hz7 : wa.heap.size < wx.heap.size := (by omega)); (try have hz6 : wa.heap.size + 1 < wx.heap.size := (by omega)); (try have hz5 := Nat.lt_of_succ_le hz8); (try have hz4 := Nat.lt_of_succ_lt hz5); obtain ⟨hc, hf⟩ := bcell hb; clear hb) | (go_at_call 56; refine (iCT_any _ _ _ _ _ _ _ _ _).mono ?_; rintro en wx ⟨rfl, hb⟩; have hB9 : Below wa.heap.size wa wx := Below.trans (b := _) (by repeat (first | assumption | exact Below.refl _ _ | refine Below.drew ?_ | refine Below.alloc ?_ (by (try simp only [World.size_alloc, World.size_drew, World.size_setCell]); omega) _ | refine Below.setCell ?_ (by (try dsimp only); omega) _)) (hb.mono (by (try simp only [World.size_alloc, World.size_drew, World.size_setCell]); omega)); have hz9 := hB9.size; have hz8 := hb.size; (try simp only [World.size_alloc, World.size_drew, World.size_setCell] at hz8); (try have p6 := Nat.lt_of_lt_of_le p5 (by omega : _ ≤ wx.heap.size)); (try have p5 := Nat.lt_of_lt_of_le p4 (by omega : _ ≤ wx.heap.size)); (try have p4 := Nat.lt_of_lt_of_le p3 (by omega : _ ≤ wx.heap.size)); (try have p3 := Nat.lt_of_lt_of_le p2 (by omega : _ ≤ wx.heap.size)); (try have p2 := Nat.lt_of_lt_of_le p1 (by omega : _ ≤ wx.heap.size)); (try have p1 := Nat.lt_of_lt_of_le hz5 (by omega : _ ≤ wx.heap.size)); (try have p0 := Nat.lt_of_lt_of_le hz4 (by omega : _ ≤ wx.heap.size)); (try have hz7 : wa.heap.size < wx.heap.size := (by omega)); (try have hz6 : wa.heap.size + 1 < wx.heap.size := (by omega)); (try have hz5 := Nat.lt_of_succ_le hz8); (try have hz4 := Nat.lt_of_succ_lt hz5); obtain ⟨hc, hf⟩ := bcell hb; clear hb))
      all_goals (go_wp2_with fail; go_meet)
      all_goals refine ⟨_, rfl, rfl, ?_, ?_, ?_, (by repeat (first | assumption | exact Below.refl _ _ | refine Below.drew ?_ | refine Below.alloc ?_ (by (try simp only [World.size_alloc, World.size_drew, World.size_setCell]); omega) _ | refine Below.setCell ?_ (by (try dsimp only); omega) _))⟩
      all_goals (first | go_simp | skip)
      all_goals first | exact World.cell?_setCell_same' _ _ _ (by go_simp) | omega
    
    case rest =>
      obtain ⟨k, rfl, rfl, kc0, kc1, ks, hxwb⟩ := hcut
      clear HTS
      have hB3 := hxwb
      have f22 := later hB3 gc0
      have f23 := later hB3 gc1
      have f24 := later hB3 f11
      have f25 := later hB3 f12
      have f26 := later hB3 f13
      have f27 := later hB3 f14
      have f28 := later hB3 f15
      have f29 := later hB3 f16
      have f30 := later hB3 f17
      have f31 := later hB3 f18
      have l32 : k < wc.heap.size := World.block_lt_of_cell? _ _ kc0
      have l33 : g < wc.heap.size := World.block_lt_of_cell? _ _ f22
      have l34 : w.heap.size < wc.heap.size := World.block_lt_of_cell? _ _ f24
      have l35 : w.heap.size + 1 < wc.heap.size := World.block_lt_of_cell? _ _ f28
      have hW3 := bseq hB1 (bseq hB2 (hB3))
      have hZ3 := hW3.size
      obtain ⟨wb, rfl⟩ : ∃ X : World, X = wc := ⟨_, rfl⟩
      go_wp2_with fail
      refine (eqRatio_any _ _ _).mono ?_
      rintro en w4 ⟨rfl, hb4⟩
      have hB4 : Below wb.heap.size wb w4 := by first | exact hb4 | exact Below.trans (by repeat (first | exact Below.refl _ _ | refine Below.drew ?_ | refine below_drewN ?_ _ | refine Below.alloc ?_ (by (try simp only [World.size_alloc, World.size_drew, size_drewN, World.size_setCell]); omega) _ | refine Below.setCell ?_ (by (try dsimp only); omega) _)) (hb4.mono (by (try simp only [World.size_alloc, World.size_drew, size_drewN, World.size_setCell]); omega))
      have f36 := later hB4 kc0
      have f37 := later hB4 kc1
      have f38 := later hB4 f22
      have f39 := later hB4 f23
      have f40 := later hB4 f24
      have f41 := later hB4 f25
      have f42 := later hB4 f26
      have f43 := later hB4 f27
      have f44 := later hB4 f28
      have f45 := later hB4 f29
      have f46 := later hB4 f30
      have f47 := later hB4 f31
      have l48 : k < w4.heap.size := World.block_lt_of_cell? _ _ f36
      have l49 : g < w4.heap.size := World.block_lt_of_cell? _ _ f38
      have l50 : w.heap.size < w4.heap.size := World.block_lt_of_cell? _ _ f40
      have l51 : w.heap.size + 1 < w4.heap.size := World.block_lt_of_cell? _ _ f44
      have hW4 := bseq hB1 (bseq hB2 (bseq hB3 (hB4)))
      have hZ4 := hW4.size
      go_wp2
      go_ret
      exact ⟨rfl, (by first | exact hW4 | (have hx := hW4; go_grown))⟩
end Go.Proofs.Ytoccglmlpobeeaa
