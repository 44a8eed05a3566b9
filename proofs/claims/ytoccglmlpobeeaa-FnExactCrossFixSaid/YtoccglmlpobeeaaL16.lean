/- the law, walked: CrossFix -/
import Derived.Test.YtoccglmlpobeeaaW21
import Derived.Test.YtoccglmlpobeeaaL12
import Derived.Test.YtoccglmlpobeeaaInv
import Derived.Deep.DeepCutAuto
set_option linter.unusedVariables false
set_option linter.unusedSimpArgs false
namespace Go.Proofs.Ytoccglmlpobeeaa
open Go.RowKit
set_option maxRecDepth 100000 in
set_option maxHeartbeats 32000000 in
theorem lawFix_any (a b c d e f g h : Int) (w : World) :
    Calls Try.prog 17 #[.agg #[.int .i64 a, .int .i64 b], .agg #[.int .i64 c, .int .i64 d], .agg #[.int .i64 e, .int .i64 f], .agg #[.int .i64 g, .int .i64 h]] w fun en w9 => en = .returned (.bool true) ∧ Below w.heap.size w w9 := by
  obtain ⟨X9, x9, Y9, y9, k9, HFX⟩ := fx_letters a b c d e f g h
  go_enter Try.func17, Try.ntmps17
  go_upto_region 1 with fail
  have hB1 : Below w.heap.size w ((((w.alloc (Obj.cells #[Value.int .i64 a, Value.int .i64 b] 23)).alloc (Obj.cells #[Value.int .i64 c, Value.int .i64 d] 23)).alloc (Obj.cells #[Value.int .i64 e, Value.int .i64 f] 23)).alloc (Obj.cells #[Value.int .i64 g, Value.int .i64 h] 23)) := by repeat (first | exact Below.refl _ _ | refine Below.drew ?_ | refine below_drewN ?_ _ | refine Below.alloc ?_ (by (try simp only [World.size_alloc, World.size_drew, size_drewN, World.size_setCell]); omega) _ | refine Below.setCell ?_ (by (try dsimp only); omega) _)
  have f1 : ((((w.alloc (Obj.cells #[Value.int .i64 a, Value.int .i64 b] 23)).alloc (Obj.cells #[Value.int .i64 c, Value.int .i64 d] 23)).alloc (Obj.cells #[Value.int .i64 e, Value.int .i64 f] 23)).alloc (Obj.cells #[Value.int .i64 g, Value.int .i64 h] 23)).cell? ⟨w.heap.size, 0, none⟩ = some (.int .i64 a) := by go_simp
  have f2 : ((((w.alloc (Obj.cells #[Value.int .i64 a, Value.int .i64 b] 23)).alloc (Obj.cells #[Value.int .i64 c, Value.int .i64 d] 23)).alloc (Obj.cells #[Value.int .i64 e, Value.int .i64 f] 23)).alloc (Obj.cells #[Value.int .i64 g, Value.int .i64 h] 23)).cell? ⟨w.heap.size, 1, none⟩ = some (.int .i64 b) := by go_simp
  have f3 : ((((w.alloc (Obj.cells #[Value.int .i64 a, Value.int .i64 b] 23)).alloc (Obj.cells #[Value.int .i64 c, Value.int .i64 d] 23)).alloc (Obj.cells #[Value.int .i64 e, Value.int .i64 f] 23)).alloc (Obj.cells #[Value.int .i64 g, Value.int .i64 h] 23)).cell? ⟨w.heap.size + 1, 0, none⟩ = some (.int .i64 c) := by go_simp
  have f4 : ((((w.alloc (Obj.cells #[Value.int .i64 a, Value.int .i64 b] 23)).alloc (Obj.cells #[Value.int .i64 c, Value.int .i64 d] 23)).alloc (Obj.cells #[Value.int .i64 e, Value.int .i64 f] 23)).alloc (Obj.cells #[Value.int .i64 g, Value.int .i64 h] 23)).cell? ⟨w.heap.size + 1, 1, none⟩ = some (.int .i64 d) := by go_simp
  have f5 : ((((w.alloc (Obj.cells #[Value.int .i64 a, Value.int .i64 b] 23)).alloc (Obj.cells #[Value.int .i64 c, Value.int .i64 d] 23)).alloc (Obj.cells #[Value.int .i64 e, Value.int .i64 f] 23)).alloc (Obj.cells #[Value.int .i64 g, Value.int .i64 h] 23)).cell? ⟨w.heap.size + 2, 0, none⟩ = some (.int .i64 e) := by go_simp
  have f6 : ((((w.alloc (Obj.cells #[Value.int .i64 a, Value.int .i64 b] 23)).alloc (Obj.cells #[Value.int .i64 c, Value.int .i64 d] 23)).alloc (Obj.cells #[Value.int .i64 e, Value.int .i64 f] 23)).alloc (Obj.cells #[Value.int .i64 g, Value.int .i64 h] 23)).cell? ⟨w.heap.size + 2, 1, none⟩ = some (.int .i64 f) := by go_simp
  have f7 : ((((w.alloc (Obj.cells #[Value.int .i64 a, Value.int .i64 b] 23)).alloc (Obj.cells #[Value.int .i64 c, Value.int .i64 d] 23)).alloc (Obj.cells #[Value.int .i64 e, Value.int .i64 f] 23)).alloc (Obj.cells #[Value.int .i64 g, Value.int .i64 h] 23)).cell? ⟨w.heap.size + 3, 0, none⟩ = some (.int .i64 g) := by go_simp
  have f8 : ((((w.alloc (Obj.cells #[Value.int .i64 a, Value.int .i64 b] 23)).alloc (Obj.cells #[Value.int .i64 c, Value.int .i64 d] 23)).alloc (Obj.cells #[Value.int .i64 e, Value.int .i64 f] 23)).alloc (Obj.cells #[Value.int .i64 g, Value.int .i64 h] 23)).cell? ⟨w.heap.size + 3, 1, none⟩ = some (.int .i64 h) := by go_simp
  generalize ((((w.alloc (Obj.cells #[Value.int .i64 a, Value.int .i64 b] 23)).alloc (Obj.cells #[Value.int .i64 c, Value.int .i64 d] 23)).alloc (Obj.cells #[Value.int .i64 e, Value.int .i64 f] 23)).alloc (Obj.cells #[Value.int .i64 g, Value.int .i64 h] 23)) = w1 at hB1 f1 f2 f3 f4 f5 f6 f7 f8 ⊢
  have l9 : w.heap.size < w1.heap.size := World.block_lt_of_cell? _ _ f1
  have l10 : w.heap.size + 1 < w1.heap.size := World.block_lt_of_cell? _ _ f3
  have l11 : w.heap.size + 2 < w1.heap.size := World.block_lt_of_cell? _ _ f5
  have l12 : w.heap.size + 3 < w1.heap.size := World.block_lt_of_cell? _ _ f7
  have hZ1 := hB1.size
  go_upto_region 1 with fail
  go_cut [9, 10, 11] (fun s9 s10 s11 w9 => ∃ ga ka : Nat, s9 = .pointer (some ⟨ga, 0, none⟩) ∧ s10 = .pointer (some ⟨ka, 0, none⟩) ∧ s11 = .int .i64 k9 ∧ w9.cell? ⟨ga, 0, none⟩ = some (.int .i64 X9) ∧ w9.cell? ⟨ga, 1, none⟩ = some (.int .i64 x9) ∧ w9.cell? ⟨ka, 0, none⟩ = some (.int .i64 Y9) ∧ w9.cell? ⟨ka, 1, none⟩ = some (.int .i64 y9) ∧ w1.heap.size ≤ ga ∧ w1.heap.size ≤ ka ∧ Below w1.heap.size w1 w9)
  case first =>
    refine wp_region_inv (I := fun A L a' w' => ∃ (u16 u17 u18 u19 u20 u21 u22 u23 u24 u15 u25 u26 u27 u9 u10 u11 : Value) (ga ka : Nat), a' = ((((((((((((((((A.put (some 16) u16).put (some 17) u17).put (some 18) u18).put (some 19) u19).put (some 20) u20).put (some 21) u21).put (some 22) u22).put (some 23) u23).put (some 24) u24).put (some 15) u15).put (some 25) u25).put (some 26) u26).put (some 27) u27).put (some 9) u9).put (some 10) u10).put (some 11) u11) ∧ Below w1.heap.size w1 w' ∧ (L 0 = true → u16 = .agg #[.int .i64 a, .int .i64 b]) ∧ (L 1 = true → u17 = .agg #[.int .i64 a, .int .i64 b]) ∧ (L 2 = true → u18 = .agg #[.int .i64 c, .int .i64 d]) ∧ (L 3 = true → u19 = .agg #[.int .i64 c, .int .i64 d]) ∧ (L 4 = true → u20 = .agg #[.int .i64 e, .int .i64 f]) ∧ (L 5 = true → u21 = .agg #[.int .i64 e, .int .i64 f]) ∧ (L 6 = true → u22 = .agg #[.int .i64 g, .int .i64 h]) ∧ (L 7 = true → u23 = .agg #[.int .i64 g, .int .i64 h]) ∧ (L 8 = true → u24 = .tuple #[.agg #[.int .i64 X9, .int .i64 x9], .agg #[.int .i64 Y9, .int .i64 y9], .int .i64 k9]) ∧ (L 9 = true → u15 = .tuple #[.agg #[.int .i64 X9, .int .i64 x9], .agg #[.int .i64 Y9, .int .i64 y9], .int .i64 k9]) ∧ (L 10 = true → u25 = .agg #[.int .i64 X9, .int .i64 x9]) ∧ (L 11 = true → u26 = .agg #[.int .i64 Y9, .int .i64 y9]) ∧ (L 12 = true → u27 = .int .i64 k9) ∧ (L 17 = true → u11 = .int .i64 k9) ∧ (L 13 = true → u9 = .pointer (some ⟨ga, 0, none⟩) ∧ w1.heap.size ≤ ga ∧ Box2 w' ga) ∧ (L 14 = true → u10 = .pointer (some ⟨ka, 0, none⟩) ∧ w1.heap.size ≤ ka ∧ Box2 w' ka) ∧ (L 13 = true → L 14 = true → ga ≠ ka) ∧ (L 15 = true → L 13 = true ∧ w'.cell? ⟨ga, 0, none⟩ = some (.int .i64 X9) ∧ w'.cell? ⟨ga, 1, none⟩ = some (.int .i64 x9)) ∧ (L 16 = true → L 14 = true ∧ w'.cell? ⟨ka, 0, none⟩ = some (.int .i64 Y9) ∧ w'.cell? ⟨ka, 1, none⟩ = some (.int .i64 y9))) (by kernel_rfl) (by kernel_rfl) ?h0 ?hstep ?hend
    case h0 =>
      refine ⟨undef, undef, undef, undef, undef, undef, undef, undef, undef, undef, undef, undef, undef, undef, undef, undef, 0, 0, ?_, Below.drew (Below.refl _ _), (fun h => by cases h), (fun h => by cases h), (fun h => by cases h), (fun h => by cases h), (fun h => by cases h), (fun h => by cases h), (fun h => by cases h), (fun h => by cases h), (fun h => by cases h), (fun h => by cases h), (fun h => by cases h), (fun h => by cases h), (fun h => by cases h), (fun h => by cases h), (fun h => by cases h), (fun h => by cases h), (fun h => by cases h), (fun h => by cases h), (fun h => by cases h)⟩
      simp only [Act.put, List.setIfInBounds_toArray, List.set_cons_zero, List.set_cons_succ]
      try rfl
    case hend =>
      intro L a5 w5 hall hI
      obtain ⟨u16, u17, u18, u19, u20, u21, u22, u23, u24, u15, u25, u26, u27, u9, u10, u11, ga, ka, rfl, hb, F0, F1, F2, F3, F4, F5, F6, F7, F8, F9, F10, F11, F12, F17, F13, F14, FN, F15, F16⟩ := hI
      have e0 := F0 (hall 0 (by decide))
      have e1 := F1 (hall 1 (by decide))
      have e2 := F2 (hall 2 (by decide))
      have e3 := F3 (hall 3 (by decide))
      have e4 := F4 (hall 4 (by decide))
      have e5 := F5 (hall 5 (by decide))
      have e6 := F6 (hall 6 (by decide))
      have e7 := F7 (hall 7 (by decide))
      have e8 := F8 (hall 8 (by decide))
      have e9 := F9 (hall 9 (by decide))
      have e10 := F10 (hall 10 (by decide))
      have e11 := F11 (hall 11 (by decide))
      have e12 := F12 (hall 12 (by decide))
      have e17 := F17 (hall 17 (by decide))
      obtain ⟨e13, g13, x13⟩ := F13 (hall 13 (by decide))
      obtain ⟨-, c15, d15⟩ := F15 (hall 15 (by decide))
      obtain ⟨e14, g14, x14⟩ := F14 (hall 14 (by decide))
      obtain ⟨-, c16, d16⟩ := F16 (hall 16 (by decide))
      clear F0 F1 F2 F3 F4 F5 F6 F7 F8 F9 F10 F11 F12 F17 F13 F14 FN F15 F16 hall
      subst e0 e1 e2 e3 e4 e5 e6 e7 e8 e9 e10 e11 e12 e13 e14 e17
      simp only [Act.put, List.setIfInBounds_toArray, List.set_cons_zero, List.set_cons_succ]
      go_wp2_with fail
      go_meet
      exact ⟨ga, ka, rfl, rfl, rfl, c15, d15, c16, d16, g13, g14, hb⟩
    case hstep =>
      intro i o ho
      have hi := (Array.getElem?_eq_some_iff.1 ho).1
      match i, ho, hi with
      | 0, ho, hi =>
        simp only [List.getElem?_toArray, List.getElem?_cons_succ, List.getElem?_cons_zero, Option.some.injEq] at ho
        subst ho
        clear hi
        intro L L5 a5 w5 hL hdep hL5 hLo hI
        obtain ⟨u16, u17, u18, u19, u20, u21, u22, u23, u24, u15, u25, u26, u27, u9, u10, u11, ga, ka, rfl, hb, F0, F1, F2, F3, F4, F5, F6, F7, F8, F9, F10, F11, F12, F17, F13, F14, FN, F15, F16⟩ := hI
        have tr : ∀ j, j ≠ 0 → L5 j = true → L j = true := fun j hj h => by rw [← hLo j hj]; exact h
        clear hdep
        intro K5 hK
        rw [if_pos (by rfl)]
        simp only [Act.put, List.setIfInBounds_toArray, List.set_cons_zero, List.set_cons_succ]
        have c0 := later hb f1
        have c1 := later hb f2
        have HH := Lib.hid (And.intro tr <| And.intro hK <| And.intro hLo <| And.intro hL <| And.intro hL5 <| And.intro hb <| And.intro F0 <| And.intro F1 <| And.intro F2 <| And.intro F3 <| And.intro F4 <| And.intro F5 <| And.intro F6 <| And.intro F7 <| And.intro F8 <| And.intro F9 <| And.intro F10 <| And.intro F11 <| And.intro F12 <| And.intro F17 <| And.intro F13 <| And.intro F14 <| And.intro FN <| And.intro F15 <| And.intro F16 <| trivial)
        clear F16 F15 FN F14 F13 F17 F12 F11 F10 F9 F8 F7 F6 F5 F4 F3 F2 F1 F0 hb hL5 hL hLo hK tr
        go_simp
        obtain ⟨tr, hK, hLo, hL, hL5, hb, F0, F1, F2, F3, F4, F5, F6, F7, F8, F9, F10, F11, F12, F17, F13, F14, FN, F15, F16, -⟩ := HH.out
        refine hK _ _ ⟨_, _, _, _, _, _, _, _, _, _, _, _, _, _, _, _, _, _, ?_, hb, (fun _ => rfl), (fun h => F1 (tr 1 (by decide) h)), (fun h => F2 (tr 2 (by decide) h)), (fun h => F3 (tr 3 (by decide) h)), (fun h => F4 (tr 4 (by decide) h)), (fun h => F5 (tr 5 (by decide) h)), (fun h => F6 (tr 6 (by decide) h)), (fun h => F7 (tr 7 (by decide) h)), (fun h => F8 (tr 8 (by decide) h)), (fun h => F9 (tr 9 (by decide) h)), (fun h => F10 (tr 10 (by decide) h)), (fun h => F11 (tr 11 (by decide) h)), (fun h => F12 (tr 12 (by decide) h)), (fun h => F17 (tr 17 (by decide) h)), (fun h => F13 (tr 13 (by decide) h)), (fun h => F14 (tr 14 (by decide) h)), (fun h h2 => FN (tr 13 (by decide) h) (tr 14 (by decide) h2)), (fun h => let p := F15 (tr 15 (by decide) h); ⟨(hLo 13 (by decide)).trans p.1, p.2.1, p.2.2⟩), (fun h => let p := F16 (tr 16 (by decide) h); ⟨(hLo 14 (by decide)).trans p.1, p.2.1, p.2.2⟩)⟩
        simp only [Act.put, List.setIfInBounds_toArray, List.set_cons_zero, List.set_cons_succ]
      | 1, ho, hi =>
        simp only [List.getElem?_toArray, List.getElem?_cons_succ, List.getElem?_cons_zero, Option.some.injEq] at ho
        subst ho
        clear hi
        intro L L5 a5 w5 hL hdep hL5 hLo hI
        obtain ⟨u16, u17, u18, u19, u20, u21, u22, u23, u24, u15, u25, u26, u27, u9, u10, u11, ga, ka, rfl, hb, F0, F1, F2, F3, F4, F5, F6, F7, F8, F9, F10, F11, F12, F17, F13, F14, FN, F15, F16⟩ := hI
        have tr : ∀ j, j ≠ 1 → L5 j = true → L j = true := fun j hj h => by rw [← hLo j hj]; exact h
        have d0 : L 0 = true := hdep ⟨0, .data⟩ (by simp) rfl
        clear hdep
        obtain rfl := F0 d0
        intro K5 hK
        rw [if_pos (by rfl)]
        simp only [Act.put, List.setIfInBounds_toArray, List.set_cons_zero, List.set_cons_succ]
        have HH := Lib.hid (And.intro tr <| And.intro hK <| And.intro hLo <| And.intro hL <| And.intro hL5 <| And.intro hb <| And.intro F0 <| And.intro F1 <| And.intro F2 <| And.intro F3 <| And.intro F4 <| And.intro F5 <| And.intro F6 <| And.intro F7 <| And.intro F8 <| And.intro F9 <| And.intro F10 <| And.intro F11 <| And.intro F12 <| And.intro F17 <| And.intro F13 <| And.intro F14 <| And.intro FN <| And.intro F15 <| And.intro F16 <| And.intro d0 <| trivial)
        clear d0 F16 F15 FN F14 F13 F17 F12 F11 F10 F9 F8 F7 F6 F5 F4 F3 F2 F1 F0 hb hL5 hL hLo hK tr
        go_simp
        go_at_call 23
        refine (toPoint_any _ _ _).mono ?_
        rintro en w6 ⟨rfl, hm⟩
        try dsimp only
        obtain ⟨tr, hK, hLo, hL, hL5, hb, F0, F1, F2, F3, F4, F5, F6, F7, F8, F9, F10, F11, F12, F17, F13, F14, FN, F15, F16, d0, -⟩ := HH.out
        refine hK _ _ ⟨_, _, _, _, _, _, _, _, _, _, _, _, _, _, _, _, _, _, ?_, (hb.trans (hm.mono hb.size)), (fun h => F0 (tr 0 (by decide) h)), (fun _ => rfl), (fun h => F2 (tr 2 (by decide) h)), (fun h => F3 (tr 3 (by decide) h)), (fun h => F4 (tr 4 (by decide) h)), (fun h => F5 (tr 5 (by decide) h)), (fun h => F6 (tr 6 (by decide) h)), (fun h => F7 (tr 7 (by decide) h)), (fun h => F8 (tr 8 (by decide) h)), (fun h => F9 (tr 9 (by decide) h)), (fun h => F10 (tr 10 (by decide) h)), (fun h => F11 (tr 11 (by decide) h)), (fun h => F12 (tr 12 (by decide) h)), (fun h => F17 (tr 17 (by decide) h)), (fun h => let p := F13 (tr 13 (by decide) h); ⟨p.1, p.2.1, p.2.2.keep hm⟩), (fun h => let p := F14 (tr 14 (by decide) h); ⟨p.1, p.2.1, p.2.2.keep hm⟩), (fun h h2 => FN (tr 13 (by decide) h) (tr 14 (by decide) h2)), (fun h => let p := F15 (tr 15 (by decide) h); ⟨(hLo 13 (by decide)).trans p.1, later hm p.2.1, later hm p.2.2⟩), (fun h => let p := F16 (tr 16 (by decide) h); ⟨(hLo 14 (by decide)).trans p.1, later hm p.2.1, later hm p.2.2⟩)⟩
        simp only [Act.put, List.setIfInBounds_toArray, List.set_cons_zero, List.set_cons_succ]
      | 2, ho, hi =>
        simp only [List.getElem?_toArray, List.getElem?_cons_succ, List.getElem?_cons_zero, Option.some.injEq] at ho
        subst ho
        clear hi
        intro L L5 a5 w5 hL hdep hL5 hLo hI
        obtain ⟨u16, u17, u18, u19, u20, u21, u22, u23, u24, u15, u25, u26, u27, u9, u10, u11, ga, ka, rfl, hb, F0, F1, F2, F3, F4, F5, F6, F7, F8, F9, F10, F11, F12, F17, F13, F14, FN, F15, F16⟩ := hI
        have tr : ∀ j, j ≠ 2 → L5 j = true → L j = true := fun j hj h => by rw [← hLo j hj]; exact h
        clear hdep
        intro K5 hK
        rw [if_pos (by rfl)]
        simp only [Act.put, List.setIfInBounds_toArray, List.set_cons_zero, List.set_cons_succ]
        have c0 := later hb f3
        have c1 := later hb f4
        have HH := Lib.hid (And.intro tr <| And.intro hK <| And.intro hLo <| And.intro hL <| And.intro hL5 <| And.intro hb <| And.intro F0 <| And.intro F1 <| And.intro F2 <| And.intro F3 <| And.intro F4 <| And.intro F5 <| And.intro F6 <| And.intro F7 <| And.intro F8 <| And.intro F9 <| And.intro F10 <| And.intro F11 <| And.intro F12 <| And.intro F17 <| And.intro F13 <| And.intro F14 <| And.intro FN <| And.intro F15 <| And.intro F16 <| trivial)
        clear F16 F15 FN F14 F13 F17 F12 F11 F10 F9 F8 F7 F6 F5 F4 F3 F2 F1 F0 hb hL5 hL hLo hK tr
        go_simp
        obtain ⟨tr, hK, hLo, hL, hL5, hb, F0, F1, F2, F3, F4, F5, F6, F7, F8, F9, F10, F11, F12, F17, F13, F14, FN, F15, F16, -⟩ := HH.out
        refine hK _ _ ⟨_, _, _, _, _, _, _, _, _, _, _, _, _, _, _, _, _, _, ?_, hb, (fun h => F0 (tr 0 (by decide) h)), (fun h => F1 (tr 1 (by decide) h)), (fun _ => rfl), (fun h => F3 (tr 3 (by decide) h)), (fun h => F4 (tr 4 (by decide) h)), (fun h => F5 (tr 5 (by decide) h)), (fun h => F6 (tr 6 (by decide) h)), (fun h => F7 (tr 7 (by decide) h)), (fun h => F8 (tr 8 (by decide) h)), (fun h => F9 (tr 9 (by decide) h)), (fun h => F10 (tr 10 (by decide) h)), (fun h => F11 (tr 11 (by decide) h)), (fun h => F12 (tr 12 (by decide) h)), (fun h => F17 (tr 17 (by decide) h)), (fun h => F13 (tr 13 (by decide) h)), (fun h => F14 (tr 14 (by decide) h)), (fun h h2 => FN (tr 13 (by decide) h) (tr 14 (by decide) h2)), (fun h => let p := F15 (tr 15 (by decide) h); ⟨(hLo 13 (by decide)).trans p.1, p.2.1, p.2.2⟩), (fun h => let p := F16 (tr 16 (by decide) h); ⟨(hLo 14 (by decide)).trans p.1, p.2.1, p.2.2⟩)⟩
        simp only [Act.put, List.setIfInBounds_toArray, List.set_cons_zero, List.set_cons_succ]
      | 3, ho, hi =>
        simp only [List.getElem?_toArray, List.getElem?_cons_succ, List.getElem?_cons_zero, Option.some.injEq] at ho
        subst ho
        clear hi
        intro L L5 a5 w5 hL hdep hL5 hLo hI
        obtain ⟨u16, u17, u18, u19, u20, u21, u22, u23, u24, u15, u25, u26, u27, u9, u10, u11, ga, ka, rfl, hb, F0, F1, F2, F3, F4, F5, F6, F7, F8, F9, F10, F11, F12, F17, F13, F14, FN, F15, F16⟩ := hI
        have tr : ∀ j, j ≠ 3 → L5 j = true → L j = true := fun j hj h => by rw [← hLo j hj]; exact h
        have d2 : L 2 = true := hdep ⟨2, .data⟩ (by simp) rfl
        clear hdep
        obtain rfl := F2 d2
        intro K5 hK
        rw [if_pos (by rfl)]
        simp only [Act.put, List.setIfInBounds_toArray, List.set_cons_zero, List.set_cons_succ]
        have HH := Lib.hid (And.intro tr <| And.intro hK <| And.intro hLo <| And.intro hL <| And.intro hL5 <| And.intro hb <| And.intro F0 <| And.intro F1 <| And.intro F2 <| And.intro F3 <| And.intro F4 <| And.intro F5 <| And.intro F6 <| And.intro F7 <| And.intro F8 <| And.intro F9 <| And.intro F10 <| And.intro F11 <| And.intro F12 <| And.intro F17 <| And.intro F13 <| And.intro F14 <| And.intro FN <| And.intro F15 <| And.intro F16 <| And.intro d2 <| trivial)
        clear d2 F16 F15 FN F14 F13 F17 F12 F11 F10 F9 F8 F7 F6 F5 F4 F3 F2 F1 F0 hb hL5 hL hLo hK tr
        go_simp
        go_at_call 23
        refine (toPoint_any _ _ _).mono ?_
        rintro en w6 ⟨rfl, hm⟩
        try dsimp only
        obtain ⟨tr, hK, hLo, hL, hL5, hb, F0, F1, F2, F3, F4, F5, F6, F7, F8, F9, F10, F11, F12, F17, F13, F14, FN, F15, F16, d2, -⟩ := HH.out
        refine hK _ _ ⟨_, _, _, _, _, _, _, _, _, _, _, _, _, _, _, _, _, _, ?_, (hb.trans (hm.mono hb.size)), (fun h => F0 (tr 0 (by decide) h)), (fun h => F1 (tr 1 (by decide) h)), (fun h => F2 (tr 2 (by decide) h)), (fun _ => rfl), (fun h => F4 (tr 4 (by decide) h)), (fun h => F5 (tr 5 (by decide) h)), (fun h => F6 (tr 6 (by decide) h)), (fun h => F7 (tr 7 (by decide) h)), (fun h => F8 (tr 8 (by decide) h)), (fun h => F9 (tr 9 (by decide) h)), (fun h => F10 (tr 10 (by decide) h)), (fun h => F11 (tr 11 (by decide) h)), (fun h => F12 (tr 12 (by decide) h)), (fun h => F17 (tr 17 (by decide) h)), (fun h => let p := F13 (tr 13 (by decide) h); ⟨p.1, p.2.1, p.2.2.keep hm⟩), (fun h => let p := F14 (tr 14 (by decide) h); ⟨p.1, p.2.1, p.2.2.keep hm⟩), (fun h h2 => FN (tr 13 (by decide) h) (tr 14 (by decide) h2)), (fun h => let p := F15 (tr 15 (by decide) h); ⟨(hLo 13 (by decide)).trans p.1, later hm p.2.1, later hm p.2.2⟩), (fun h => let p := F16 (tr 16 (by decide) h); ⟨(hLo 14 (by decide)).trans p.1, later hm p.2.1, later hm p.2.2⟩)⟩
        simp only [Act.put, List.setIfInBounds_toArray, List.set_cons_zero, List.set_cons_succ]
      | 4, ho, hi =>
        simp only [List.getElem?_toArray, List.getElem?_cons_succ, List.getElem?_cons_zero, Option.some.injEq] at ho
        subst ho
        clear hi
        intro L L5 a5 w5 hL hdep hL5 hLo hI
        obtain ⟨u16, u17, u18, u19, u20, u21, u22, u23, u24, u15, u25, u26, u27, u9, u10, u11, ga, ka, rfl, hb, F0, F1, F2, F3, F4, F5, F6, F7, F8, F9, F10, F11, F12, F17, F13, F14, FN, F15, F16⟩ := hI
        have tr : ∀ j, j ≠ 4 → L5 j = true → L j = true := fun j hj h => by rw [← hLo j hj]; exact h
        clear hdep
        intro K5 hK
        rw [if_pos (by rfl)]
        simp only [Act.put, List.setIfInBounds_toArray, List.set_cons_zero, List.set_cons_succ]
        have c0 := later hb f5
        have c1 := later hb f6
        have HH := Lib.hid (And.intro tr <| And.intro hK <| And.intro hLo <| And.intro hL <| And.intro hL5 <| And.intro hb <| And.intro F0 <| And.intro F1 <| And.intro F2 <| And.intro F3 <| And.intro F4 <| And.intro F5 <| And.intro F6 <| And.intro F7 <| And.intro F8 <| And.intro F9 <| And.intro F10 <| And.intro F11 <| And.intro F12 <| And.intro F17 <| And.intro F13 <| And.intro F14 <| And.intro FN <| And.intro F15 <| And.intro F16 <| trivial)
        clear F16 F15 FN F14 F13 F17 F12 F11 F10 F9 F8 F7 F6 F5 F4 F3 F2 F1 F0 hb hL5 hL hLo hK tr
        go_simp
        obtain ⟨tr, hK, hLo, hL, hL5, hb, F0, F1, F2, F3, F4, F5, F6, F7, F8, F9, F10, F11, F12, F17, F13, F14, FN, F15, F16, -⟩ := HH.out
        refine hK _ _ ⟨_, _, _, _, _, _, _, _, _, _, _, _, _, _, _, _, _, _, ?_, hb, (fun h => F0 (tr 0 (by decide) h)), (fun h => F1 (tr 1 (by decide) h)), (fun h => F2 (tr 2 (by decide) h)), (fun h => F3 (tr 3 (by decide) h)), (fun _ => rfl), (fun h => F5 (tr 5 (by decide) h)), (fun h => F6 (tr 6 (by decide) h)), (fun h => F7 (tr 7 (by decide) h)), (fun h => F8 (tr 8 (by decide) h)), (fun h => F9 (tr 9 (by decide) h)), (fun h => F10 (tr 10 (by decide) h)), (fun h => F11 (tr 11 (by decide) h)), (fun h => F12 (tr 12 (by decide) h)), (fun h => F17 (tr 17 (by decide) h)), (fun h => F13 (tr 13 (by decide) h)), (fun h => F14 (tr 14 (by decide) h)), (fun h h2 => FN (tr 13 (by decide) h) (tr 14 (by decide) h2)), (fun h => let p := F15 (tr 15 (by decide) h); ⟨(hLo 13 (by decide)).trans p.1, p.2.1, p.2.2⟩), (fun h => let p := F16 (tr 16 (by decide) h); ⟨(hLo 14 (by decide)).trans p.1, p.2.1, p.2.2⟩)⟩
        simp only [Act.put, List.setIfInBounds_toArray, List.set_cons_zero, List.set_cons_succ]
      | 5, ho, hi =>
        simp only [List.getElem?_toArray, List.getElem?_cons_succ, List.getElem?_cons_zero, Option.some.injEq] at ho
        subst ho
        clear hi
        intro L L5 a5 w5 hL hdep hL5 hLo hI
        obtain ⟨u16, u17, u18, u19, u20, u21, u22, u23, u24, u15, u25, u26, u27, u9, u10, u11, ga, ka, rfl, hb, F0, F1, F2, F3, F4, F5, F6, F7, F8, F9, F10, F11, F12, F17, F13, F14, FN, F15, F16⟩ := hI
        have tr : ∀ j, j ≠ 5 → L5 j = true → L j = true := fun j hj h => by rw [← hLo j hj]; exact h
        have d4 : L 4 = true := hdep ⟨4, .data⟩ (by simp) rfl
        clear hdep
        obtain rfl := F4 d4
        intro K5 hK
        rw [if_pos (by rfl)]
        simp only [Act.put, List.setIfInBounds_toArray, List.set_cons_zero, List.set_cons_succ]
        have HH := Lib.hid (And.intro tr <| And.intro hK <| And.intro hLo <| And.intro hL <| And.intro hL5 <| And.intro hb <| And.intro F0 <| And.intro F1 <| And.intro F2 <| And.intro F3 <| And.intro F4 <| And.intro F5 <| And.intro F6 <| And.intro F7 <| And.intro F8 <| And.intro F9 <| And.intro F10 <| And.intro F11 <| And.intro F12 <| And.intro F17 <| And.intro F13 <| And.intro F14 <| And.intro FN <| And.intro F15 <| And.intro F16 <| And.intro d4 <| trivial)
        clear d4 F16 F15 FN F14 F13 F17 F12 F11 F10 F9 F8 F7 F6 F5 F4 F3 F2 F1 F0 hb hL5 hL hLo hK tr
        go_simp
        go_at_call 23
        refine (toPoint_any _ _ _).mono ?_
        rintro en w6 ⟨rfl, hm⟩
        try dsimp only
        obtain ⟨tr, hK, hLo, hL, hL5, hb, F0, F1, F2, F3, F4, F5, F6, F7, F8, F9, F10, F11, F12, F17, F13, F14, FN, F15, F16, d4, -⟩ := HH.out
        refine hK _ _ ⟨_, _, _, _, _, _, _, _, _, _, _, _, _, _, _, _, _, _, ?_, (hb.trans (hm.mono hb.size)), (fun h => F0 (tr 0 (by decide) h)), (fun h => F1 (tr 1 (by decide) h)), (fun h => F2 (tr 2 (by decide) h)), (fun h => F3 (tr 3 (by decide) h)), (fun h => F4 (tr 4 (by decide) h)), (fun _ => rfl), (fun h => F6 (tr 6 (by decide) h)), (fun h => F7 (tr 7 (by decide) h)), (fun h => F8 (tr 8 (by decide) h)), (fun h => F9 (tr 9 (by decide) h)), (fun h => F10 (tr 10 (by decide) h)), (fun h => F11 (tr 11 (by decide) h)), (fun h => F12 (tr 12 (by decide) h)), (fun h => F17 (tr 17 (by decide) h)), (fun h => let p := F13 (tr 13 (by decide) h); ⟨p.1, p.2.1, p.2.2.keep hm⟩), (fun h => let p := F14 (tr 14 (by decide) h); ⟨p.1, p.2.1, p.2.2.keep hm⟩), (fun h h2 => FN (tr 13 (by decide) h) (tr 14 (by decide) h2)), (fun h => let p := F15 (tr 15 (by decide) h); ⟨(hLo 13 (by decide)).trans p.1, later hm p.2.1, later hm p.2.2⟩), (fun h => let p := F16 (tr 16 (by decide) h); ⟨(hLo 14 (by decide)).trans p.1, later hm p.2.1, later hm p.2.2⟩)⟩
        simp only [Act.put, List.setIfInBounds_toArray, List.set_cons_zero, List.set_cons_succ]
      | 6, ho, hi =>
        simp only [List.getElem?_toArray, List.getElem?_cons_succ, List.getElem?_cons_zero, Option.some.injEq] at ho
        subst ho
        clear hi
        intro L L5 a5 w5 hL hdep hL5 hLo hI
        obtain ⟨u16, u17, u18, u19, u20, u21, u22, u23, u24, u15, u25, u26, u27, u9, u10, u11, ga, ka, rfl, hb, F0, F1, F2, F3, F4, F5, F6, F7, F8, F9, F10, F11, F12, F17, F13, F14, FN, F15, F16⟩ := hI
        have tr : ∀ j, j ≠ 6 → L5 j = true → L j = true := fun j hj h => by rw [← hLo j hj]; exact h
        clear hdep
        intro K5 hK
        rw [if_pos (by rfl)]
        simp only [Act.put, List.setIfInBounds_toArray, List.set_cons_zero, List.set_cons_succ]
        have c0 := later hb f7
        have c1 := later hb f8
        have HH := Lib.hid (And.intro tr <| And.intro hK <| And.intro hLo <| And.intro hL <| And.intro hL5 <| And.intro hb <| And.intro F0 <| And.intro F1 <| And.intro F2 <| And.intro F3 <| And.intro F4 <| And.intro F5 <| And.intro F6 <| And.intro F7 <| And.intro F8 <| And.intro F9 <| And.intro F10 <| And.intro F11 <| And.intro F12 <| And.intro F17 <| And.intro F13 <| And.intro F14 <| And.intro FN <| And.intro F15 <| And.intro F16 <| trivial)
        clear F16 F15 FN F14 F13 F17 F12 F11 F10 F9 F8 F7 F6 F5 F4 F3 F2 F1 F0 hb hL5 hL hLo hK tr
        go_simp
        obtain ⟨tr, hK, hLo, hL, hL5, hb, F0, F1, F2, F3, F4, F5, F6, F7, F8, F9, F10, F11, F12, F17, F13, F14, FN, F15, F16, -⟩ := HH.out
        refine hK _ _ ⟨_, _, _, _, _, _, _, _, _, _, _, _, _, _, _, _, _, _, ?_, hb, (fun h => F0 (tr 0 (by decide) h)), (fun h => F1 (tr 1 (by decide) h)), (fun h => F2 (tr 2 (by decide) h)), (fun h => F3 (tr 3 (by decide) h)), (fun h => F4 (tr 4 (by decide) h)), (fun h => F5 (tr 5 (by decide) h)), (fun _ => rfl), (fun h => F7 (tr 7 (by decide) h)), (fun h => F8 (tr 8 (by decide) h)), (fun h => F9 (tr 9 (by decide) h)), (fun h => F10 (tr 10 (by decide) h)), (fun h => F11 (tr 11 (by decide) h)), (fun h => F12 (tr 12 (by decide) h)), (fun h => F17 (tr 17 (by decide) h)), (fun h => F13 (tr 13 (by decide) h)), (fun h => F14 (tr 14 (by decide) h)), (fun h h2 => FN (tr 13 (by decide) h) (tr 14 (by decide) h2)), (fun h => let p := F15 (tr 15 (by decide) h); ⟨(hLo 13 (by decide)).trans p.1, p.2.1, p.2.2⟩), (fun h => let p := F16 (tr 16 (by decide) h); ⟨(hLo 14 (by decide)).trans p.1, p.2.1, p.2.2⟩)⟩
        simp only [Act.put, List.setIfInBounds_toArray, List.set_cons_zero, List.set_cons_succ]
      | 7, ho, hi =>
        simp only [List.getElem?_toArray, List.getElem?_cons_succ, List.getElem?_cons_zero, Option.some.injEq] at ho
        subst ho
        clear hi
        intro L L5 a5 w5 hL hdep hL5 hLo hI
        obtain ⟨u16, u17, u18, u19, u20, u21, u22, u23, u24, u15, u25, u26, u27, u9, u10, u11, ga, ka, rfl, hb, F0, F1, F2, F3, F4, F5, F6, F7, F8, F9, F10, F11, F12, F17, F13, F14, FN, F15, F16⟩ := hI
        have tr : ∀ j, j ≠ 7 → L5 j = true → L j = true := fun j hj h => by rw [← hLo j hj]; exact h
        have d6 : L 6 = true := hdep ⟨6, .data⟩ (by simp) rfl
        clear hdep
        obtain rfl := F6 d6
        intro K5 hK
        rw [if_pos (by rfl)]
        simp only [Act.put, List.setIfInBounds_toArray, List.set_cons_zero, List.set_cons_succ]
        have HH := Lib.hid (And.intro tr <| And.intro hK <| And.intro hLo <| And.intro hL <| And.intro hL5 <| And.intro hb <| And.intro F0 <| And.intro F1 <| And.intro F2 <| And.intro F3 <| And.intro F4 <| And.intro F5 <| And.intro F6 <| And.intro F7 <| And.intro F8 <| And.intro F9 <| And.intro F10 <| And.intro F11 <| And.intro F12 <| And.intro F17 <| And.intro F13 <| And.intro F14 <| And.intro FN <| And.intro F15 <| And.intro F16 <| And.intro d6 <| trivial)
        clear d6 F16 F15 FN F14 F13 F17 F12 F11 F10 F9 F8 F7 F6 F5 F4 F3 F2 F1 F0 hb hL5 hL hLo hK tr
        go_simp
        go_at_call 23
        refine (toPoint_any _ _ _).mono ?_
        rintro en w6 ⟨rfl, hm⟩
        try dsimp only
        obtain ⟨tr, hK, hLo, hL, hL5, hb, F0, F1, F2, F3, F4, F5, F6, F7, F8, F9, F10, F11, F12, F17, F13, F14, FN, F15, F16, d6, -⟩ := HH.out
        refine hK _ _ ⟨_, _, _, _, _, _, _, _, _, _, _, _, _, _, _, _, _, _, ?_, (hb.trans (hm.mono hb.size)), (fun h => F0 (tr 0 (by decide) h)), (fun h => F1 (tr 1 (by decide) h)), (fun h => F2 (tr 2 (by decide) h)), (fun h => F3 (tr 3 (by decide) h)), (fun h => F4 (tr 4 (by decide) h)), (fun h => F5 (tr 5 (by decide) h)), (fun h => F6 (tr 6 (by decide) h)), (fun _ => rfl), (fun h => F8 (tr 8 (by decide) h)), (fun h => F9 (tr 9 (by decide) h)), (fun h => F10 (tr 10 (by decide) h)), (fun h => F11 (tr 11 (by decide) h)), (fun h => F12 (tr 12 (by decide) h)), (fun h => F17 (tr 17 (by decide) h)), (fun h => let p := F13 (tr 13 (by decide) h); ⟨p.1, p.2.1, p.2.2.keep hm⟩), (fun h => let p := F14 (tr 14 (by decide) h); ⟨p.1, p.2.1, p.2.2.keep hm⟩), (fun h h2 => FN (tr 13 (by decide) h) (tr 14 (by decide) h2)), (fun h => let p := F15 (tr 15 (by decide) h); ⟨(hLo 13 (by decide)).trans p.1, later hm p.2.1, later hm p.2.2⟩), (fun h => let p := F16 (tr 16 (by decide) h); ⟨(hLo 14 (by decide)).trans p.1, later hm p.2.1, later hm p.2.2⟩)⟩
        simp only [Act.put, List.setIfInBounds_toArray, List.set_cons_zero, List.set_cons_succ]
      | 8, ho, hi =>
        simp only [List.getElem?_toArray, List.getElem?_cons_succ, List.getElem?_cons_zero, Option.some.injEq] at ho
        subst ho
        clear hi
        intro L L5 a5 w5 hL hdep hL5 hLo hI
        obtain ⟨u16, u17, u18, u19, u20, u21, u22, u23, u24, u15, u25, u26, u27, u9, u10, u11, ga, ka, rfl, hb, F0, F1, F2, F3, F4, F5, F6, F7, F8, F9, F10, F11, F12, F17, F13, F14, FN, F15, F16⟩ := hI
        have tr : ∀ j, j ≠ 8 → L5 j = true → L j = true := fun j hj h => by rw [← hLo j hj]; exact h
        have d1 : L 1 = true := hdep ⟨1, .data⟩ (by simp) rfl
        have d3 : L 3 = true := hdep ⟨3, .data⟩ (by simp) rfl
        have d5 : L 5 = true := hdep ⟨5, .data⟩ (by simp) rfl
        have d7 : L 7 = true := hdep ⟨7, .data⟩ (by simp) rfl
        clear hdep
        obtain rfl := F1 d1
        obtain rfl := F3 d3
        obtain rfl := F5 d5
        obtain rfl := F7 d7
        intro K5 hK
        rw [if_pos (by rfl)]
        simp only [Act.put, List.setIfInBounds_toArray, List.set_cons_zero, List.set_cons_succ]
        have HH := Lib.hid (And.intro tr <| And.intro hK <| And.intro hLo <| And.intro hL <| And.intro hL5 <| And.intro hb <| And.intro F0 <| And.intro F1 <| And.intro F2 <| And.intro F3 <| And.intro F4 <| And.intro F5 <| And.intro F6 <| And.intro F7 <| And.intro F8 <| And.intro F9 <| And.intro F10 <| And.intro F11 <| And.intro F12 <| And.intro F17 <| And.intro F13 <| And.intro F14 <| And.intro FN <| And.intro F15 <| And.intro F16 <| And.intro d1 <| And.intro d3 <| And.intro d5 <| And.intro d7 <| trivial)
        clear d7 d5 d3 d1 F16 F15 FN F14 F13 F17 F12 F11 F10 F9 F8 F7 F6 F5 F4 F3 F2 F1 F0 hb hL5 hL hLo hK tr
        go_simp
        go_at_call 60
        refine (sFixL_any _ _ _ _ _ _ _ _ X9 x9 Y9 y9 k9 _ HFX).mono ?_
        rintro en w6 ⟨rfl, hm⟩
        try dsimp only
        obtain ⟨tr, hK, hLo, hL, hL5, hb, F0, F1, F2, F3, F4, F5, F6, F7, F8, F9, F10, F11, F12, F17, F13, F14, FN, F15, F16, d1, d3, d5, d7, -⟩ := HH.out
        refine hK _ _ ⟨_, _, _, _, _, _, _, _, _, _, _, _, _, _, _, _, _, _, ?_, (hb.trans (hm.mono hb.size)), (fun h => F0 (tr 0 (by decide) h)), (fun h => F1 (tr 1 (by decide) h)), (fun h => F2 (tr 2 (by decide) h)), (fun h => F3 (tr 3 (by decide) h)), (fun h => F4 (tr 4 (by decide) h)), (fun h => F5 (tr 5 (by decide) h)), (fun h => F6 (tr 6 (by decide) h)), (fun h => F7 (tr 7 (by decide) h)), (fun _ => rfl), (fun h => F9 (tr 9 (by decide) h)), (fun h => F10 (tr 10 (by decide) h)), (fun h => F11 (tr 11 (by decide) h)), (fun h => F12 (tr 12 (by decide) h)), (fun h => F17 (tr 17 (by decide) h)), (fun h => let p := F13 (tr 13 (by decide) h); ⟨p.1, p.2.1, p.2.2.keep hm⟩), (fun h => let p := F14 (tr 14 (by decide) h); ⟨p.1, p.2.1, p.2.2.keep hm⟩), (fun h h2 => FN (tr 13 (by decide) h) (tr 14 (by decide) h2)), (fun h => let p := F15 (tr 15 (by decide) h); ⟨(hLo 13 (by decide)).trans p.1, later hm p.2.1, later hm p.2.2⟩), (fun h => let p := F16 (tr 16 (by decide) h); ⟨(hLo 14 (by decide)).trans p.1, later hm p.2.1, later hm p.2.2⟩)⟩
        simp only [Act.put, List.setIfInBounds_toArray, List.set_cons_zero, List.set_cons_succ]
      | 9, ho, hi =>
        simp only [List.getElem?_toArray, List.getElem?_cons_succ, List.getElem?_cons_zero, Option.some.injEq] at ho
        subst ho
        clear hi
        intro L L5 a5 w5 hL hdep hL5 hLo hI
        obtain ⟨u16, u17, u18, u19, u20, u21, u22, u23, u24, u15, u25, u26, u27, u9, u10, u11, ga, ka, rfl, hb, F0, F1, F2, F3, F4, F5, F6, F7, F8, F9, F10, F11, F12, F17, F13, F14, FN, F15, F16⟩ := hI
        have tr : ∀ j, j ≠ 9 → L5 j = true → L j = true := fun j hj h => by rw [← hLo j hj]; exact h
        have d8 : L 8 = true := hdep ⟨8, .data⟩ (by simp) rfl
        clear hdep
        obtain rfl := F8 d8
        intro K5 hK
        rw [if_pos (by rfl)]
        simp only [Act.put, List.setIfInBounds_toArray, List.set_cons_zero, List.set_cons_succ]
        have HH := Lib.hid (And.intro tr <| And.intro hK <| And.intro hLo <| And.intro hL <| And.intro hL5 <| And.intro hb <| And.intro F0 <| And.intro F1 <| And.intro F2 <| And.intro F3 <| And.intro F4 <| And.intro F5 <| And.intro F6 <| And.intro F7 <| And.intro F8 <| And.intro F9 <| And.intro F10 <| And.intro F11 <| And.intro F12 <| And.intro F17 <| And.intro F13 <| And.intro F14 <| And.intro FN <| And.intro F15 <| And.intro F16 <| And.intro d8 <| trivial)
        clear d8 F16 F15 FN F14 F13 F17 F12 F11 F10 F9 F8 F7 F6 F5 F4 F3 F2 F1 F0 hb hL5 hL hLo hK tr
        go_simp
        obtain ⟨tr, hK, hLo, hL, hL5, hb, F0, F1, F2, F3, F4, F5, F6, F7, F8, F9, F10, F11, F12, F17, F13, F14, FN, F15, F16, d8, -⟩ := HH.out
        refine hK _ _ ⟨_, _, _, _, _, _, _, _, _, _, _, _, _, _, _, _, _, _, ?_, hb, (fun h => F0 (tr 0 (by decide) h)), (fun h => F1 (tr 1 (by decide) h)), (fun h => F2 (tr 2 (by decide) h)), (fun h => F3 (tr 3 (by decide) h)), (fun h => F4 (tr 4 (by decide) h)), (fun h => F5 (tr 5 (by decide) h)), (fun h => F6 (tr 6 (by decide) h)), (fun h => F7 (tr 7 (by decide) h)), (fun h => F8 (tr 8 (by decide) h)), (fun _ => rfl), (fun h => F10 (tr 10 (by decide) h)), (fun h => F11 (tr 11 (by decide) h)), (fun h => F12 (tr 12 (by decide) h)), (fun h => F17 (tr 17 (by decide) h)), (fun h => F13 (tr 13 (by decide) h)), (fun h => F14 (tr 14 (by decide) h)), (fun h h2 => FN (tr 13 (by decide) h) (tr 14 (by decide) h2)), (fun h => let p := F15 (tr 15 (by decide) h); ⟨(hLo 13 (by decide)).trans p.1, p.2.1, p.2.2⟩), (fun h => let p := F16 (tr 16 (by decide) h); ⟨(hLo 14 (by decide)).trans p.1, p.2.1, p.2.2⟩)⟩
        simp only [Act.put, List.setIfInBounds_toArray, List.set_cons_zero, List.set_cons_succ]
      | 10, ho, hi =>
        simp only [List.getElem?_toArray, List.getElem?_cons_succ, List.getElem?_cons_zero, Option.some.injEq] at ho
        subst ho
        clear hi
        intro L L5 a5 w5 hL hdep hL5 hLo hI
        obtain ⟨u16, u17, u18, u19, u20, u21, u22, u23, u24, u15, u25, u26, u27, u9, u10, u11, ga, ka, rfl, hb, F0, F1, F2, F3, F4, F5, F6, F7, F8, F9, F10, F11, F12, F17, F13, F14, FN, F15, F16⟩ := hI
        have tr : ∀ j, j ≠ 10 → L5 j = true → L j = true := fun j hj h => by rw [← hLo j hj]; exact h
        have d9 : L 9 = true := hdep ⟨9, .data⟩ (by simp) rfl
        clear hdep
        obtain rfl := F9 d9
        intro K5 hK
        rw [if_pos (by rfl)]
        simp only [Act.put, List.setIfInBounds_toArray, List.set_cons_zero, List.set_cons_succ]
        have HH := Lib.hid (And.intro tr <| And.intro hK <| And.intro hLo <| And.intro hL <| And.intro hL5 <| And.intro hb <| And.intro F0 <| And.intro F1 <| And.intro F2 <| And.intro F3 <| And.intro F4 <| And.intro F5 <| And.intro F6 <| And.intro F7 <| And.intro F8 <| And.intro F9 <| And.intro F10 <| And.intro F11 <| And.intro F12 <| And.intro F17 <| And.intro F13 <| And.intro F14 <| And.intro FN <| And.intro F15 <| And.intro F16 <| And.intro d9 <| trivial)
        clear d9 F16 F15 FN F14 F13 F17 F12 F11 F10 F9 F8 F7 F6 F5 F4 F3 F2 F1 F0 hb hL5 hL hLo hK tr
        go_simp
        obtain ⟨tr, hK, hLo, hL, hL5, hb, F0, F1, F2, F3, F4, F5, F6, F7, F8, F9, F10, F11, F12, F17, F13, F14, FN, F15, F16, d9, -⟩ := HH.out
        refine hK _ _ ⟨_, _, _, _, _, _, _, _, _, _, _, _, _, _, _, _, _, _, ?_, hb, (fun h => F0 (tr 0 (by decide) h)), (fun h => F1 (tr 1 (by decide) h)), (fun h => F2 (tr 2 (by decide) h)), (fun h => F3 (tr 3 (by decide) h)), (fun h => F4 (tr 4 (by decide) h)), (fun h => F5 (tr 5 (by decide) h)), (fun h => F6 (tr 6 (by decide) h)), (fun h => F7 (tr 7 (by decide) h)), (fun h => F8 (tr 8 (by decide) h)), (fun h => F9 (tr 9 (by decide) h)), (fun _ => rfl), (fun h => F11 (tr 11 (by decide) h)), (fun h => F12 (tr 12 (by decide) h)), (fun h => F17 (tr 17 (by decide) h)), (fun h => F13 (tr 13 (by decide) h)), (fun h => F14 (tr 14 (by decide) h)), (fun h h2 => FN (tr 13 (by decide) h) (tr 14 (by decide) h2)), (fun h => let p := F15 (tr 15 (by decide) h); ⟨(hLo 13 (by decide)).trans p.1, p.2.1, p.2.2⟩), (fun h => let p := F16 (tr 16 (by decide) h); ⟨(hLo 14 (by decide)).trans p.1, p.2.1, p.2.2⟩)⟩
        simp only [Act.put, List.setIfInBounds_toArray, List.set_cons_zero, List.set_cons_succ]
      | 11, ho, hi =>
        simp only [List.getElem?_toArray, List.getElem?_cons_succ, List.getElem?_cons_zero, Option.some.injEq] at ho
        subst ho
        clear hi
        intro L L5 a5 w5 hL hdep hL5 hLo hI
        obtain ⟨u16, u17, u18, u19, u20, u21, u22, u23, u24, u15, u25, u26, u27, u9, u10, u11, ga, ka, rfl, hb, F0, F1, F2, F3, F4, F5, F6, F7, F8, F9, F10, F11, F12, F17, F13, F14, FN, F15, F16⟩ := hI
        have tr : ∀ j, j ≠ 11 → L5 j = true → L j = true := fun j hj h => by rw [← hLo j hj]; exact h
        have d9 : L 9 = true := hdep ⟨9, .data⟩ (by simp) rfl
        clear hdep
        obtain rfl := F9 d9
        intro K5 hK
        rw [if_pos (by rfl)]
        simp only [Act.put, List.setIfInBounds_toArray, List.set_cons_zero, List.set_cons_succ]
        have HH := Lib.hid (And.intro tr <| And.intro hK <| And.intro hLo <| And.intro hL <| And.intro hL5 <| And.intro hb <| And.intro F0 <| And.intro F1 <| And.intro F2 <| And.intro F3 <| And.intro F4 <| And.intro F5 <| And.intro F6 <| And.intro F7 <| And.intro F8 <| And.intro F9 <| And.intro F10 <| And.intro F11 <| And.intro F12 <| And.intro F17 <| And.intro F13 <| And.intro F14 <| And.intro FN <| And.intro F15 <| And.intro F16 <| And.intro d9 <| trivial)
        clear d9 F16 F15 FN F14 F13 F17 F12 F11 F10 F9 F8 F7 F6 F5 F4 F3 F2 F1 F0 hb hL5 hL hLo hK tr
        go_simp
        obtain ⟨tr, hK, hLo, hL, hL5, hb, F0, F1, F2, F3, F4, F5, F6, F7, F8, F9, F10, F11, F12, F17, F13, F14, FN, F15, F16, d9, -⟩ := HH.out
        refine hK _ _ ⟨_, _, _, _, _, _, _, _, _, _, _, _, _, _, _, _, _, _, ?_, hb, (fun h => F0 (tr 0 (by decide) h)), (fun h => F1 (tr 1 (by decide) h)), (fun h => F2 (tr 2 (by decide) h)), (fun h => F3 (tr 3 (by decide) h)), (fun h => F4 (tr 4 (by decide) h)), (fun h => F5 (tr 5 (by decide) h)), (fun h => F6 (tr 6 (by decide) h)), (fun h => F7 (tr 7 (by decide) h)), (fun h => F8 (tr 8 (by decide) h)), (fun h => F9 (tr 9 (by decide) h)), (fun h => F10 (tr 10 (by decide) h)), (fun _ => rfl), (fun h => F12 (tr 12 (by decide) h)), (fun h => F17 (tr 17 (by decide) h)), (fun h => F13 (tr 13 (by decide) h)), (fun h => F14 (tr 14 (by decide) h)), (fun h h2 => FN (tr 13 (by decide) h) (tr 14 (by decide) h2)), (fun h => let p := F15 (tr 15 (by decide) h); ⟨(hLo 13 (by decide)).trans p.1, p.2.1, p.2.2⟩), (fun h => let p := F16 (tr 16 (by decide) h); ⟨(hLo 14 (by decide)).trans p.1, p.2.1, p.2.2⟩)⟩
        simp only [Act.put, List.setIfInBounds_toArray, List.set_cons_zero, List.set_cons_succ]
      | 12, ho, hi =>
        simp only [List.getElem?_toArray, List.getElem?_cons_succ, List.getElem?_cons_zero, Option.some.injEq] at ho
        subst ho
        clear hi
        intro L L5 a5 w5 hL hdep hL5 hLo hI
        obtain ⟨u16, u17, u18, u19, u20, u21, u22, u23, u24, u15, u25, u26, u27, u9, u10, u11, ga, ka, rfl, hb, F0, F1, F2, F3, F4, F5, F6, F7, F8, F9, F10, F11, F12, F17, F13, F14, FN, F15, F16⟩ := hI
        have tr : ∀ j, j ≠ 12 → L5 j = true → L j = true := fun j hj h => by rw [← hLo j hj]; exact h
        have d9 : L 9 = true := hdep ⟨9, .data⟩ (by simp) rfl
        clear hdep
        obtain rfl := F9 d9
        intro K5 hK
        rw [if_pos (by rfl)]
        simp only [Act.put, List.setIfInBounds_toArray, List.set_cons_zero, List.set_cons_succ]
        have HH := Lib.hid (And.intro tr <| And.intro hK <| And.intro hLo <| And.intro hL <| And.intro hL5 <| And.intro hb <| And.intro F0 <| And.intro F1 <| And.intro F2 <| And.intro F3 <| And.intro F4 <| And.intro F5 <| And.intro F6 <| And.intro F7 <| And.intro F8 <| And.intro F9 <| And.intro F10 <| And.intro F11 <| And.intro F12 <| And.intro F17 <| And.intro F13 <| And.intro F14 <| And.intro FN <| And.intro F15 <| And.intro F16 <| And.intro d9 <| trivial)
        clear d9 F16 F15 FN F14 F13 F17 F12 F11 F10 F9 F8 F7 F6 F5 F4 F3 F2 F1 F0 hb hL5 hL hLo hK tr
        go_simp
        obtain ⟨tr, hK, hLo, hL, hL5, hb, F0, F1, F2, F3, F4, F5, F6, F7, F8, F9, F10, F11, F12, F17, F13, F14, FN, F15, F16, d9, -⟩ := HH.out
        refine hK _ _ ⟨_, _, _, _, _, _, _, _, _, _, _, _, _, _, _, _, _, _, ?_, hb, (fun h => F0 (tr 0 (by decide) h)), (fun h => F1 (tr 1 (by decide) h)), (fun h => F2 (tr 2 (by decide) h)), (fun h => F3 (tr 3 (by decide) h)), (fun h => F4 (tr 4 (by decide) h)), (fun h => F5 (tr 5 (by decide) h)), (fun h => F6 (tr 6 (by decide) h)), (fun h => F7 (tr 7 (by decide) h)), (fun h => F8 (tr 8 (by decide) h)), (fun h => F9 (tr 9 (by decide) h)), (fun h => F10 (tr 10 (by decide) h)), (fun h => F11 (tr 11 (by decide) h)), (fun _ => rfl), (fun h => F17 (tr 17 (by decide) h)), (fun h => F13 (tr 13 (by decide) h)), (fun h => F14 (tr 14 (by decide) h)), (fun h h2 => FN (tr 13 (by decide) h) (tr 14 (by decide) h2)), (fun h => let p := F15 (tr 15 (by decide) h); ⟨(hLo 13 (by decide)).trans p.1, p.2.1, p.2.2⟩), (fun h => let p := F16 (tr 16 (by decide) h); ⟨(hLo 14 (by decide)).trans p.1, p.2.1, p.2.2⟩)⟩
        simp only [Act.put, List.setIfInBounds_toArray, List.set_cons_zero, List.set_cons_succ]
      | 13, ho, hi =>
        simp only [List.getElem?_toArray, List.getElem?_cons_succ, List.getElem?_cons_zero, Option.some.injEq] at ho
        subst ho
        clear hi
        intro L L5 a5 w5 hL hdep hL5 hLo hI
        obtain ⟨u16, u17, u18, u19, u20, u21, u22, u23, u24, u15, u25, u26, u27, u9, u10, u11, ga, ka, rfl, hb, F0, F1, F2, F3, F4, F5, F6, F7, F8, F9, F10, F11, F12, F17, F13, F14, FN, F15, F16⟩ := hI
        have tr : ∀ j, j ≠ 13 → L5 j = true → L j = true := fun j hj h => by rw [← hLo j hj]; exact h
        clear hdep
        intro K5 hK
        rw [if_pos (by rfl)]
        simp only [Act.put, List.setIfInBounds_toArray, List.set_cons_zero, List.set_cons_succ]
        have HH := Lib.hid (And.intro tr <| And.intro hK <| And.intro hLo <| And.intro hL <| And.intro hL5 <| And.intro hb <| And.intro F0 <| And.intro F1 <| And.intro F2 <| And.intro F3 <| And.intro F4 <| And.intro F5 <| And.intro F6 <| And.intro F7 <| And.intro F8 <| And.intro F9 <| And.intro F10 <| And.intro F11 <| And.intro F12 <| And.intro F17 <| And.intro F13 <| And.intro F14 <| And.intro FN <| And.intro F15 <| And.intro F16 <| trivial)
        clear F16 F15 FN F14 F13 F17 F12 F11 F10 F9 F8 F7 F6 F5 F4 F3 F2 F1 F0 hb hL5 hL hLo hK tr
        go_simp
        have hm : Below w5.heap.size w5 (w5.alloc (Obj.cells #[.int .i64 0, .int .i64 0] 73)) := Below.alloc (Below.refl _ _) (Nat.le_refl _) _
        obtain ⟨tr, hK, hLo, hL, hL5, hb, F0, F1, F2, F3, F4, F5, F6, F7, F8, F9, F10, F11, F12, F17, F13, F14, FN, F15, F16, -⟩ := HH.out
        refine hK _ _ ⟨_, _, _, _, _, _, _, _, _, _, _, _, _, _, _, _, w5.heap.size, ka, ?_, (hb.trans (hm.mono hb.size)), (fun h => F0 (tr 0 (by decide) h)), (fun h => F1 (tr 1 (by decide) h)), (fun h => F2 (tr 2 (by decide) h)), (fun h => F3 (tr 3 (by decide) h)), (fun h => F4 (tr 4 (by decide) h)), (fun h => F5 (tr 5 (by decide) h)), (fun h => F6 (tr 6 (by decide) h)), (fun h => F7 (tr 7 (by decide) h)), (fun h => F8 (tr 8 (by decide) h)), (fun h => F9 (tr 9 (by decide) h)), (fun h => F10 (tr 10 (by decide) h)), (fun h => F11 (tr 11 (by decide) h)), (fun h => F12 (tr 12 (by decide) h)), (fun h => F17 (tr 17 (by decide) h)), (fun _ => ⟨rfl, hb.size, ⟨⟨.int .i64 0, by go_simp⟩, ⟨.int .i64 0, by go_simp⟩, by go_simp, by go_simp⟩⟩), (fun h => let p := F14 (tr 14 (by decide) h); ⟨p.1, p.2.1, p.2.2.keep hm⟩), (fun _ h => (Nat.ne_of_lt (F14 (tr 14 (by decide) h)).2.2.lt).symm), (fun h => absurd (F15 (tr 15 (by decide) h)).1 (by rw [hL]; decide)), (fun h => let p := F16 (tr 16 (by decide) h); ⟨(hLo 14 (by decide)).trans p.1, later hm p.2.1, later hm p.2.2⟩)⟩
        simp only [Act.put, List.setIfInBounds_toArray, List.set_cons_zero, List.set_cons_succ]
      | 14, ho, hi =>
        simp only [List.getElem?_toArray, List.getElem?_cons_succ, List.getElem?_cons_zero, Option.some.injEq] at ho
        subst ho
        clear hi
        intro L L5 a5 w5 hL hdep hL5 hLo hI
        obtain ⟨u16, u17, u18, u19, u20, u21, u22, u23, u24, u15, u25, u26, u27, u9, u10, u11, ga, ka, rfl, hb, F0, F1, F2, F3, F4, F5, F6, F7, F8, F9, F10, F11, F12, F17, F13, F14, FN, F15, F16⟩ := hI
        have tr : ∀ j, j ≠ 14 → L5 j = true → L j = true := fun j hj h => by rw [← hLo j hj]; exact h
        clear hdep
        intro K5 hK
        rw [if_pos (by rfl)]
        simp only [Act.put, List.setIfInBounds_toArray, List.set_cons_zero, List.set_cons_succ]
        have HH := Lib.hid (And.intro tr <| And.intro hK <| And.intro hLo <| And.intro hL <| And.intro hL5 <| And.intro hb <| And.intro F0 <| And.intro F1 <| And.intro F2 <| And.intro F3 <| And.intro F4 <| And.intro F5 <| And.intro F6 <| And.intro F7 <| And.intro F8 <| And.intro F9 <| And.intro F10 <| And.intro F11 <| And.intro F12 <| And.intro F17 <| And.intro F13 <| And.intro F14 <| And.intro FN <| And.intro F15 <| And.intro F16 <| trivial)
        clear F16 F15 FN F14 F13 F17 F12 F11 F10 F9 F8 F7 F6 F5 F4 F3 F2 F1 F0 hb hL5 hL hLo hK tr
        go_simp
        have hm : Below w5.heap.size w5 (w5.alloc (Obj.cells #[.int .i64 0, .int .i64 0] 73)) := Below.alloc (Below.refl _ _) (Nat.le_refl _) _
        obtain ⟨tr, hK, hLo, hL, hL5, hb, F0, F1, F2, F3, F4, F5, F6, F7, F8, F9, F10, F11, F12, F17, F13, F14, FN, F15, F16, -⟩ := HH.out
        refine hK _ _ ⟨_, _, _, _, _, _, _, _, _, _, _, _, _, _, _, _, ga, w5.heap.size, ?_, (hb.trans (hm.mono hb.size)), (fun h => F0 (tr 0 (by decide) h)), (fun h => F1 (tr 1 (by decide) h)), (fun h => F2 (tr 2 (by decide) h)), (fun h => F3 (tr 3 (by decide) h)), (fun h => F4 (tr 4 (by decide) h)), (fun h => F5 (tr 5 (by decide) h)), (fun h => F6 (tr 6 (by decide) h)), (fun h => F7 (tr 7 (by decide) h)), (fun h => F8 (tr 8 (by decide) h)), (fun h => F9 (tr 9 (by decide) h)), (fun h => F10 (tr 10 (by decide) h)), (fun h => F11 (tr 11 (by decide) h)), (fun h => F12 (tr 12 (by decide) h)), (fun h => F17 (tr 17 (by decide) h)), (fun h => let p := F13 (tr 13 (by decide) h); ⟨p.1, p.2.1, p.2.2.keep hm⟩), (fun _ => ⟨rfl, hb.size, ⟨⟨.int .i64 0, by go_simp⟩, ⟨.int .i64 0, by go_simp⟩, by go_simp, by go_simp⟩⟩), (fun h _ => Nat.ne_of_lt (F13 (tr 13 (by decide) h)).2.2.lt), (fun h => let p := F15 (tr 15 (by decide) h); ⟨(hLo 13 (by decide)).trans p.1, later hm p.2.1, later hm p.2.2⟩), (fun h => absurd (F16 (tr 16 (by decide) h)).1 (by rw [hL]; decide))⟩
        simp only [Act.put, List.setIfInBounds_toArray, List.set_cons_zero, List.set_cons_succ]
      | 15, ho, hi =>
        simp only [List.getElem?_toArray, List.getElem?_cons_succ, List.getElem?_cons_zero, Option.some.injEq] at ho
        subst ho
        clear hi
        intro L L5 a5 w5 hL hdep hL5 hLo hI
        obtain ⟨u16, u17, u18, u19, u20, u21, u22, u23, u24, u15, u25, u26, u27, u9, u10, u11, ga, ka, rfl, hb, F0, F1, F2, F3, F4, F5, F6, F7, F8, F9, F10, F11, F12, F17, F13, F14, FN, F15, F16⟩ := hI
        have tr : ∀ j, j ≠ 15 → L5 j = true → L j = true := fun j hj h => by rw [← hLo j hj]; exact h
        have d13 : L 13 = true := hdep ⟨13, .data⟩ (by simp) rfl
        have d10 : L 10 = true := hdep ⟨10, .data⟩ (by simp) rfl
        clear hdep
        obtain ⟨rfl, hg, hx⟩ := F13 d13
        obtain rfl := F10 d10
        intro K5 hK
        rw [if_pos (by rfl)]
        simp only [Act.put, List.setIfInBounds_toArray, List.set_cons_zero, List.set_cons_succ]
        obtain ⟨⟨y0, hy0⟩, ⟨y1, hy1⟩, f0, f1⟩ := id hx
        have HH := Lib.hid (And.intro tr <| And.intro hK <| And.intro hLo <| And.intro hL <| And.intro hL5 <| And.intro hb <| And.intro F0 <| And.intro F1 <| And.intro F2 <| And.intro F3 <| And.intro F4 <| And.intro F5 <| And.intro F6 <| And.intro F7 <| And.intro F8 <| And.intro F9 <| And.intro F10 <| And.intro F11 <| And.intro F12 <| And.intro F17 <| And.intro F13 <| And.intro F14 <| And.intro FN <| And.intro F15 <| And.intro F16 <| And.intro d13 <| And.intro d10 <| And.intro hg <| And.intro hx <| trivial)
        clear hx hg d10 d13 F16 F15 FN F14 F13 F17 F12 F11 F10 F9 F8 F7 F6 F5 F4 F3 F2 F1 F0 hb hL5 hL hLo hK tr
        go_simp
        clear hy0 hy1 f0 f1
        obtain ⟨tr, hK, hLo, hL, hL5, hb, F0, F1, F2, F3, F4, F5, F6, F7, F8, F9, F10, F11, F12, F17, F13, F14, FN, F15, F16, d13, d10, hg, hx, -⟩ := HH.out
        refine hK _ _ ⟨_, _, _, _, _, _, _, _, _, _, _, _, _, _, _, _, ga, ka, ?_, ((hb.setCell hg _).setCell hg _), (fun h => F0 (tr 0 (by decide) h)), (fun h => F1 (tr 1 (by decide) h)), (fun h => F2 (tr 2 (by decide) h)), (fun h => F3 (tr 3 (by decide) h)), (fun h => F4 (tr 4 (by decide) h)), (fun h => F5 (tr 5 (by decide) h)), (fun h => F6 (tr 6 (by decide) h)), (fun h => F7 (tr 7 (by decide) h)), (fun h => F8 (tr 8 (by decide) h)), (fun h => F9 (tr 9 (by decide) h)), (fun h => F10 (tr 10 (by decide) h)), (fun h => F11 (tr 11 (by decide) h)), (fun h => F12 (tr 12 (by decide) h)), (fun h => F17 (tr 17 (by decide) h)), (fun h => ⟨rfl, hg, hx.set⟩), (fun h => let p := F14 (tr 14 (by decide) h); ⟨p.1, p.2.1, p.2.2.far (FN d13 (tr 14 (by decide) h)).symm⟩), (fun h h2 => FN (tr 13 (by decide) h) (tr 14 (by decide) h2)), (fun h => ⟨(hLo 13 (by decide)).trans d13, hx.setc.1, hx.setc.2⟩), (fun h => let p := F16 (tr 16 (by decide) h); ⟨(hLo 14 (by decide)).trans p.1, (set2_far (FN d13 p.1).symm).trans p.2.1, (set2_far (FN d13 p.1).symm).trans p.2.2⟩)⟩
        simp only [Act.put, List.setIfInBounds_toArray, List.set_cons_zero, List.set_cons_succ]
      | 16, ho, hi =>
        simp only [List.getElem?_toArray, List.getElem?_cons_succ, List.getElem?_cons_zero, Option.some.injEq] at ho
        subst ho
        clear hi
        intro L L5 a5 w5 hL hdep hL5 hLo hI
        obtain ⟨u16, u17, u18, u19, u20, u21, u22, u23, u24, u15, u25, u26, u27, u9, u10, u11, ga, ka, rfl, hb, F0, F1, F2, F3, F4, F5, F6, F7, F8, F9, F10, F11, F12, F17, F13, F14, FN, F15, F16⟩ := hI
        have tr : ∀ j, j ≠ 16 → L5 j = true → L j = true := fun j hj h => by rw [← hLo j hj]; exact h
        have d14 : L 14 = true := hdep ⟨14, .data⟩ (by simp) rfl
        have d11 : L 11 = true := hdep ⟨11, .data⟩ (by simp) rfl
        clear hdep
        obtain ⟨rfl, hg, hx⟩ := F14 d14
        obtain rfl := F11 d11
        intro K5 hK
        rw [if_pos (by rfl)]
        simp only [Act.put, List.setIfInBounds_toArray, List.set_cons_zero, List.set_cons_succ]
        obtain ⟨⟨y0, hy0⟩, ⟨y1, hy1⟩, f0, f1⟩ := id hx
        have HH := Lib.hid (And.intro tr <| And.intro hK <| And.intro hLo <| And.intro hL <| And.intro hL5 <| And.intro hb <| And.intro F0 <| And.intro F1 <| And.intro F2 <| And.intro F3 <| And.intro F4 <| And.intro F5 <| And.intro F6 <| And.intro F7 <| And.intro F8 <| And.intro F9 <| And.intro F10 <| And.intro F11 <| And.intro F12 <| And.intro F17 <| And.intro F13 <| And.intro F14 <| And.intro FN <| And.intro F15 <| And.intro F16 <| And.intro d14 <| And.intro d11 <| And.intro hg <| And.intro hx <| trivial)
        clear hx hg d11 d14 F16 F15 FN F14 F13 F17 F12 F11 F10 F9 F8 F7 F6 F5 F4 F3 F2 F1 F0 hb hL5 hL hLo hK tr
        go_simp
        clear hy0 hy1 f0 f1
        obtain ⟨tr, hK, hLo, hL, hL5, hb, F0, F1, F2, F3, F4, F5, F6, F7, F8, F9, F10, F11, F12, F17, F13, F14, FN, F15, F16, d14, d11, hg, hx, -⟩ := HH.out
        refine hK _ _ ⟨_, _, _, _, _, _, _, _, _, _, _, _, _, _, _, _, ga, ka, ?_, ((hb.setCell hg _).setCell hg _), (fun h => F0 (tr 0 (by decide) h)), (fun h => F1 (tr 1 (by decide) h)), (fun h => F2 (tr 2 (by decide) h)), (fun h => F3 (tr 3 (by decide) h)), (fun h => F4 (tr 4 (by decide) h)), (fun h => F5 (tr 5 (by decide) h)), (fun h => F6 (tr 6 (by decide) h)), (fun h => F7 (tr 7 (by decide) h)), (fun h => F8 (tr 8 (by decide) h)), (fun h => F9 (tr 9 (by decide) h)), (fun h => F10 (tr 10 (by decide) h)), (fun h => F11 (tr 11 (by decide) h)), (fun h => F12 (tr 12 (by decide) h)), (fun h => F17 (tr 17 (by decide) h)), (fun h => let p := F13 (tr 13 (by decide) h); ⟨p.1, p.2.1, p.2.2.far (FN (tr 13 (by decide) h) d14)⟩), (fun h => ⟨rfl, hg, hx.set⟩), (fun h h2 => FN (tr 13 (by decide) h) (tr 14 (by decide) h2)), (fun h => let p := F15 (tr 15 (by decide) h); ⟨(hLo 13 (by decide)).trans p.1, (set2_far (FN p.1 d14)).trans p.2.1, (set2_far (FN p.1 d14)).trans p.2.2⟩), (fun h => ⟨(hLo 14 (by decide)).trans d14, hx.setc.1, hx.setc.2⟩)⟩
        simp only [Act.put, List.setIfInBounds_toArray, List.set_cons_zero, List.set_cons_succ]
      | 17, ho, hi =>
        simp only [List.getElem?_toArray, List.getElem?_cons_succ, List.getElem?_cons_zero, Option.some.injEq] at ho
        subst ho
        clear hi
        intro L L5 a5 w5 hL hdep hL5 hLo hI
        obtain ⟨u16, u17, u18, u19, u20, u21, u22, u23, u24, u15, u25, u26, u27, u9, u10, u11, ga, ka, rfl, hb, F0, F1, F2, F3, F4, F5, F6, F7, F8, F9, F10, F11, F12, F17, F13, F14, FN, F15, F16⟩ := hI
        have tr : ∀ j, j ≠ 17 → L5 j = true → L j = true := fun j hj h => by rw [← hLo j hj]; exact h
        have d12 : L 12 = true := hdep ⟨12, .data⟩ (by simp) rfl
        clear hdep
        obtain rfl := F12 d12
        intro K5 hK
        rw [if_pos (by rfl)]
        simp only [Act.put, List.setIfInBounds_toArray, List.set_cons_zero, List.set_cons_succ]
        have HH := Lib.hid (And.intro tr <| And.intro hK <| And.intro hLo <| And.intro hL <| And.intro hL5 <| And.intro hb <| And.intro F0 <| And.intro F1 <| And.intro F2 <| And.intro F3 <| And.intro F4 <| And.intro F5 <| And.intro F6 <| And.intro F7 <| And.intro F8 <| And.intro F9 <| And.intro F10 <| And.intro F11 <| And.intro F12 <| And.intro F17 <| And.intro F13 <| And.intro F14 <| And.intro FN <| And.intro F15 <| And.intro F16 <| And.intro d12 <| trivial)
        clear d12 F16 F15 FN F14 F13 F17 F12 F11 F10 F9 F8 F7 F6 F5 F4 F3 F2 F1 F0 hb hL5 hL hLo hK tr
        go_simp
        obtain ⟨tr, hK, hLo, hL, hL5, hb, F0, F1, F2, F3, F4, F5, F6, F7, F8, F9, F10, F11, F12, F17, F13, F14, FN, F15, F16, d12, -⟩ := HH.out
        refine hK _ _ ⟨_, _, _, _, _, _, _, _, _, _, _, _, _, _, _, _, _, _, ?_, hb, (fun h => F0 (tr 0 (by decide) h)), (fun h => F1 (tr 1 (by decide) h)), (fun h => F2 (tr 2 (by decide) h)), (fun h => F3 (tr 3 (by decide) h)), (fun h => F4 (tr 4 (by decide) h)), (fun h => F5 (tr 5 (by decide) h)), (fun h => F6 (tr 6 (by decide) h)), (fun h => F7 (tr 7 (by decide) h)), (fun h => F8 (tr 8 (by decide) h)), (fun h => F9 (tr 9 (by decide) h)), (fun h => F10 (tr 10 (by decide) h)), (fun h => F11 (tr 11 (by decide) h)), (fun h => F12 (tr 12 (by decide) h)), (fun _ => rfl), (fun h => F13 (tr 13 (by decide) h)), (fun h => F14 (tr 14 (by decide) h)), (fun h h2 => FN (tr 13 (by decide) h) (tr 14 (by decide) h2)), (fun h => let p := F15 (tr 15 (by decide) h); ⟨(hLo 13 (by decide)).trans p.1, p.2.1, p.2.2⟩), (fun h => let p := F16 (tr 16 (by decide) h); ⟨(hLo 14 (by decide)).trans p.1, p.2.1, p.2.2⟩)⟩
        simp only [Act.put, List.setIfInBounds_toArray, List.set_cons_zero, List.set_cons_succ]
      | k + 18, ho, hi => exact absurd hi (by simp)
  case rest =>
    obtain ⟨ga, ka, rfl, rfl, rfl, c0a, c1a, c2a, c3a, gs0a, gs1a, hxa⟩ := hcut
    have hB2 := hxa
    have f13 := later hB2 f1
    have f14 := later hB2 f2
    have f15 := later hB2 f3
    have f16 := later hB2 f4
    have f17 := later hB2 f5
    have f18 := later hB2 f6
    have f19 := later hB2 f7
    have f20 := later hB2 f8
    have l21 : ga < wc.heap.size := World.block_lt_of_cell? _ _ c0a
    have l22 : ka < wc.heap.size := World.block_lt_of_cell? _ _ c2a
    have l23 : w.heap.size < wc.heap.size := World.block_lt_of_cell? _ _ f13
    have l24 : w.heap.size + 1 < wc.heap.size := World.block_lt_of_cell? _ _ f15
    have l25 : w.heap.size + 2 < wc.heap.size := World.block_lt_of_cell? _ _ f17
    have l26 : w.heap.size + 3 < wc.heap.size := World.block_lt_of_cell? _ _ f19
    have hW2 := bseq hB1 (hB2)
    have hZ2 := hW2.size
    obtain ⟨wa, rfl⟩ : ∃ X : World, X = wc := ⟨_, rfl⟩
    go_upto_region 2 with fail
    go_cut [12, 13, 14] (fun s12 s13 s14 w9 => ∃ gb kb : Nat, s12 = .pointer (some ⟨gb, 0, none⟩) ∧ s13 = .pointer (some ⟨kb, 0, none⟩) ∧ s14 = .int .i64 k9 ∧ w9.cell? ⟨gb, 0, none⟩ = some (.int .i64 X9) ∧ w9.cell? ⟨gb, 1, none⟩ = some (.int .i64 x9) ∧ w9.cell? ⟨kb, 0, none⟩ = some (.int .i64 Y9) ∧ w9.cell? ⟨kb, 1, none⟩ = some (.int .i64 y9) ∧ wa.heap.size ≤ gb ∧ wa.heap.size ≤ kb ∧ Below wa.heap.size wa w9)
    case first =>
      refine wp_region_inv (I := fun A L a' w' => ∃ (u29 u30 u31 u32 u33 u34 u35 u36 u37 u28 u38 u39 u40 u12 u13 u14 : Value) (gb kb : Nat), a' = ((((((((((((((((A.put (some 29) u29).put (some 30) u30).put (some 31) u31).put (some 32) u32).put (some 33) u33).put (some 34) u34).put (some 35) u35).put (some 36) u36).put (some 37) u37).put (some 28) u28).put (some 38) u38).put (some 39) u39).put (some 40) u40).put (some 12) u12).put (some 13) u13).put (some 14) u14) ∧ Below wa.heap.size wa w' ∧ (L 0 = true → u29 = .agg #[.int .i64 a, .int .i64 b]) ∧ (L 1 = true → u30 = .agg #[.int .i64 a, .int .i64 b]) ∧ (L 2 = true → u31 = .agg #[.int .i64 c, .int .i64 d]) ∧ (L 3 = true → u32 = .agg #[.int .i64 c, .int .i64 d]) ∧ (L 4 = true → u33 = .agg #[.int .i64 e, .int .i64 f]) ∧ (L 5 = true → u34 = .agg #[.int .i64 e, .int .i64 f]) ∧ (L 6 = true → u35 = .agg #[.int .i64 g, .int .i64 h]) ∧ (L 7 = true → u36 = .agg #[.int .i64 g, .int .i64 h]) ∧ (L 8 = true → u37 = .tuple #[.agg #[.int .i64 X9, .int .i64 x9], .agg #[.int .i64 Y9, .int .i64 y9], .int .i64 k9]) ∧ (L 9 = true → u28 = .tuple #[.agg #[.int .i64 X9, .int .i64 x9], .agg #[.int .i64 Y9, .int .i64 y9], .int .i64 k9]) ∧ (L 10 = true → u38 = .agg #[.int .i64 X9, .int .i64 x9]) ∧ (L 11 = true → u39 = .agg #[.int .i64 Y9, .int .i64 y9]) ∧ (L 12 = true → u40 = .int .i64 k9) ∧ (L 17 = true → u14 = .int .i64 k9) ∧ (L 13 = true → u12 = .pointer (some ⟨gb, 0, none⟩) ∧ wa.heap.size ≤ gb ∧ Box2 w' gb) ∧ (L 14 = true → u13 = .pointer (some ⟨kb, 0, none⟩) ∧ wa.heap.size ≤ kb ∧ Box2 w' kb) ∧ (L 13 = true → L 14 = true → gb ≠ kb) ∧ (L 15 = true → L 13 = true ∧ w'.cell? ⟨gb, 0, none⟩ = some (.int .i64 X9) ∧ w'.cell? ⟨gb, 1, none⟩ = some (.int .i64 x9)) ∧ (L 16 = true → L 14 = true ∧ w'.cell? ⟨kb, 0, none⟩ = some (.int .i64 Y9) ∧ w'.cell? ⟨kb, 1, none⟩ = some (.int .i64 y9))) (by kernel_rfl) (by kernel_rfl) ?h0 ?hstep ?hend
      case h0 =>
        refine ⟨u29, u30, u31, u32, u33, u34, u35, u36, u37, u28, u38, u39, u40, undef, undef, undef, 0, 0, ?_, Below.drew (Below.refl _ _), (fun h => by cases h), (fun h => by cases h), (fun h => by cases h), (fun h => by cases h), (fun h => by cases h), (fun h => by cases h), (fun h => by cases h), (fun h => by cases h), (fun h => by cases h), (fun h => by cases h), (fun h => by cases h), (fun h => by cases h), (fun h => by cases h), (fun h => by cases h), (fun h => by cases h), (fun h => by cases h), (fun h => by cases h), (fun h => by cases h), (fun h => by cases h)⟩
        simp only [Act.put, List.setIfInBounds_toArray, List.set_cons_zero, List.set_cons_succ]
        try rfl
      case hend =>
        intro L a5 w5 hall hI
        obtain ⟨u29, u30, u31, u32, u33, u34, u35, u36, u37, u28, u38, u39, u40, u12, u13, u14, gb, kb, rfl, hb, F0, F1, F2, F3, F4, F5, F6, F7, F8, F9, F10, F11, F12, F17, F13, F14, FN, F15, F16⟩ := hI
        have e0 := F0 (hall 0 (by decide))
        have e1 := F1 (hall 1 (by decide))
        have e2 := F2 (hall 2 (by decide))
        have e3 := F3 (hall 3 (by decide))
        have e4 := F4 (hall 4 (by decide))
        have e5 := F5 (hall 5 (by decide))
        have e6 := F6 (hall 6 (by decide))
        have e7 := F7 (hall 7 (by decide))
        have e8 := F8 (hall 8 (by decide))
        have e9 := F9 (hall 9 (by decide))
        have e10 := F10 (hall 10 (by decide))
        have e11 := F11 (hall 11 (by decide))
        have e12 := F12 (hall 12 (by decide))
        have e17 := F17 (hall 17 (by decide))
        obtain ⟨e13, g13, x13⟩ := F13 (hall 13 (by decide))
        obtain ⟨-, c15, d15⟩ := F15 (hall 15 (by decide))
        obtain ⟨e14, g14, x14⟩ := F14 (hall 14 (by decide))
        obtain ⟨-, c16, d16⟩ := F16 (hall 16 (by decide))
        clear F0 F1 F2 F3 F4 F5 F6 F7 F8 F9 F10 F11 F12 F17 F13 F14 FN F15 F16 hall
        subst e0 e1 e2 e3 e4 e5 e6 e7 e8 e9 e10 e11 e12 e13 e14 e17
        simp only [Act.put, List.setIfInBounds_toArray, List.set_cons_zero, List.set_cons_succ]
        go_wp2_with fail
        go_meet
        exact ⟨gb, kb, rfl, rfl, rfl, c15, d15, c16, d16, g13, g14, hb⟩
      case hstep =>
        intro i o ho
        have hi := (Array.getElem?_eq_some_iff.1 ho).1
        match i, ho, hi with
        | 0, ho, hi =>
          simp only [List.getElem?_toArray, List.getElem?_cons_succ, List.getElem?_cons_zero, Option.some.injEq] at ho
          subst ho
          clear hi
          intro L L5 a5 w5 hL hdep hL5 hLo hI
          obtain ⟨u29, u30, u31, u32, u33, u34, u35, u36, u37, u28, u38, u39, u40, u12, u13, u14, gb, kb, rfl, hb, F0, F1, F2, F3, F4, F5, F6, F7, F8, F9, F10, F11, F12, F17, F13, F14, FN, F15, F16⟩ := hI
          have tr : ∀ j, j ≠ 0 → L5 j = true → L j = true := fun j hj h => by rw [← hLo j hj]; exact h
          clear hdep
          intro K5 hK
          rw [if_pos (by rfl)]
          simp only [Act.put, List.setIfInBounds_toArray, List.set_cons_zero, List.set_cons_succ]
          have c0 := later hb f13
          have c1 := later hb f14
          have HH := Lib.hid (And.intro tr <| And.intro hK <| And.intro hLo <| And.intro hL <| And.intro hL5 <| And.intro hb <| And.intro F0 <| And.intro F1 <| And.intro F2 <| And.intro F3 <| And.intro F4 <| And.intro F5 <| And.intro F6 <| And.intro F7 <| And.intro F8 <| And.intro F9 <| And.intro F10 <| And.intro F11 <| And.intro F12 <| And.intro F17 <| And.intro F13 <| And.intro F14 <| And.intro FN <| And.intro F15 <| And.intro F16 <| trivial)
          clear F16 F15 FN F14 F13 F17 F12 F11 F10 F9 F8 F7 F6 F5 F4 F3 F2 F1 F0 hb hL5 hL hLo hK tr
          go_simp
          obtain ⟨tr, hK, hLo, hL, hL5, hb, F0, F1, F2, F3, F4, F5, F6, F7, F8, F9, F10, F11, F12, F17, F13, F14, FN, F15, F16, -⟩ := HH.out
          refine hK _ _ ⟨_, _, _, _, _, _, _, _, _, _, _, _, _, _, _, _, _, _, ?_, hb, (fun _ => rfl), (fun h => F1 (tr 1 (by decide) h)), (fun h => F2 (tr 2 (by decide) h)), (fun h => F3 (tr 3 (by decide) h)), (fun h => F4 (tr 4 (by decide) h)), (fun h => F5 (tr 5 (by decide) h)), (fun h => F6 (tr 6 (by decide) h)), (fun h => F7 (tr 7 (by decide) h)), (fun h => F8 (tr 8 (by decide) h)), (fun h => F9 (tr 9 (by decide) h)), (fun h => F10 (tr 10 (by decide) h)), (fun h => F11 (tr 11 (by decide) h)), (fun h => F12 (tr 12 (by decide) h)), (fun h => F17 (tr 17 (by decide) h)), (fun h => F13 (tr 13 (by decide) h)), (fun h => F14 (tr 14 (by decide) h)), (fun h h2 => FN (tr 13 (by decide) h) (tr 14 (by decide) h2)), (fun h => let p := F15 (tr 15 (by decide) h); ⟨(hLo 13 (by decide)).trans p.1, p.2.1, p.2.2⟩), (fun h => let p := F16 (tr 16 (by decide) h); ⟨(hLo 14 (by decide)).trans p.1, p.2.1, p.2.2⟩)⟩
          simp only [Act.put, List.setIfInBounds_toArray, List.set_cons_zero, List.set_cons_succ]
        | 1, ho, hi =>
          simp only [List.getElem?_toArray, List.getElem?_cons_succ, List.getElem?_cons_zero, Option.some.injEq] at ho
          subst ho
          clear hi
          intro L L5 a5 w5 hL hdep hL5 hLo hI
          obtain ⟨u29, u30, u31, u32, u33, u34, u35, u36, u37, u28, u38, u39, u40, u12, u13, u14, gb, kb, rfl, hb, F0, F1, F2, F3, F4, F5, F6, F7, F8, F9, F10, F11, F12, F17, F13, F14, FN, F15, F16⟩ := hI
          have tr : ∀ j, j ≠ 1 → L5 j = true → L j = true := fun j hj h => by rw [← hLo j hj]; exact h
          have d0 : L 0 = true := hdep ⟨0, .data⟩ (by simp) rfl
          clear hdep
          obtain rfl := F0 d0
          intro K5 hK
          rw [if_pos (by rfl)]
          simp only [Act.put, List.setIfInBounds_toArray, List.set_cons_zero, List.set_cons_succ]
          have HH := Lib.hid (And.intro tr <| And.intro hK <| And.intro hLo <| And.intro hL <| And.intro hL5 <| And.intro hb <| And.intro F0 <| And.intro F1 <| And.intro F2 <| And.intro F3 <| And.intro F4 <| And.intro F5 <| And.intro F6 <| And.intro F7 <| And.intro F8 <| And.intro F9 <| And.intro F10 <| And.intro F11 <| And.intro F12 <| And.intro F17 <| And.intro F13 <| And.intro F14 <| And.intro FN <| And.intro F15 <| And.intro F16 <| And.intro d0 <| trivial)
          clear d0 F16 F15 FN F14 F13 F17 F12 F11 F10 F9 F8 F7 F6 F5 F4 F3 F2 F1 F0 hb hL5 hL hLo hK tr
          go_simp
          go_at_call 23
          refine (toPoint_any _ _ _).mono ?_
          rintro en w6 ⟨rfl, hm⟩
          try dsimp only
          obtain ⟨tr, hK, hLo, hL, hL5, hb, F0, F1, F2, F3, F4, F5, F6, F7, F8, F9, F10, F11, F12, F17, F13, F14, FN, F15, F16, d0, -⟩ := HH.out
          refine hK _ _ ⟨_, _, _, _, _, _, _, _, _, _, _, _, _, _, _, _, _, _, ?_, (hb.trans (hm.mono hb.size)), (fun h => F0 (tr 0 (by decide) h)), (fun _ => rfl), (fun h => F2 (tr 2 (by decide) h)), (fun h => F3 (tr 3 (by decide) h)), (fun h => F4 (tr 4 (by decide) h)), (fun h => F5 (tr 5 (by decide) h)), (fun h => F6 (tr 6 (by decide) h)), (fun h => F7 (tr 7 (by decide) h)), (fun h => F8 (tr 8 (by decide) h)), (fun h => F9 (tr 9 (by decide) h)), (fun h => F10 (tr 10 (by decide) h)), (fun h => F11 (tr 11 (by decide) h)), (fun h => F12 (tr 12 (by decide) h)), (fun h => F17 (tr 17 (by decide) h)), (fun h => let p := F13 (tr 13 (by decide) h); ⟨p.1, p.2.1, p.2.2.keep hm⟩), (fun h => let p := F14 (tr 14 (by decide) h); ⟨p.1, p.2.1, p.2.2.keep hm⟩), (fun h h2 => FN (tr 13 (by decide) h) (tr 14 (by decide) h2)), (fun h => let p := F15 (tr 15 (by decide) h); ⟨(hLo 13 (by decide)).trans p.1, later hm p.2.1, later hm p.2.2⟩), (fun h => let p := F16 (tr 16 (by decide) h); ⟨(hLo 14 (by decide)).trans p.1, later hm p.2.1, later hm p.2.2⟩)⟩
          simp only [Act.put, List.setIfInBounds_toArray, List.set_cons_zero, List.set_cons_succ]
        | 2, ho, hi =>
          simp only [List.getElem?_toArray, List.getElem?_cons_succ, List.getElem?_cons_zero, Option.some.injEq] at ho
          subst ho
          clear hi
          intro L L5 a5 w5 hL hdep hL5 hLo hI
          obtain ⟨u29, u30, u31, u32, u33, u34, u35, u36, u37, u28, u38, u39, u40, u12, u13, u14, gb, kb, rfl, hb, F0, F1, F2, F3, F4, F5, F6, F7, F8, F9, F10, F11, F12, F17, F13, F14, FN, F15, F16⟩ := hI
          have tr : ∀ j, j ≠ 2 → L5 j = true → L j = true := fun j hj h => by rw [← hLo j hj]; exact h
          clear hdep
          intro K5 hK
          rw [if_pos (by rfl)]
          simp only [Act.put, List.setIfInBounds_toArray, List.set_cons_zero, List.set_cons_succ]
          have c0 := later hb f15
          have c1 := later hb f16
          have HH := Lib.hid (And.intro tr <| And.intro hK <| And.intro hLo <| And.intro hL <| And.intro hL5 <| And.intro hb <| And.intro F0 <| And.intro F1 <| And.intro F2 <| And.intro F3 <| And.intro F4 <| And.intro F5 <| And.intro F6 <| And.intro F7 <| And.intro F8 <| And.intro F9 <| And.intro F10 <| And.intro F11 <| And.intro F12 <| And.intro F17 <| And.intro F13 <| And.intro F14 <| And.intro FN <| And.intro F15 <| And.intro F16 <| trivial)
          clear F16 F15 FN F14 F13 F17 F12 F11 F10 F9 F8 F7 F6 F5 F4 F3 F2 F1 F0 hb hL5 hL hLo hK tr
          go_simp
          obtain ⟨tr, hK, hLo, hL, hL5, hb, F0, F1, F2, F3, F4, F5, F6, F7, F8, F9, F10, F11, F12, F17, F13, F14, FN, F15, F16, -⟩ := HH.out
          refine hK _ _ ⟨_, _, _, _, _, _, _, _, _, _, _, _, _, _, _, _, _, _, ?_, hb, (fun h => F0 (tr 0 (by decide) h)), (fun h => F1 (tr 1 (by decide) h)), (fun _ => rfl), (fun h => F3 (tr 3 (by decide) h)), (fun h => F4 (tr 4 (by decide) h)), (fun h => F5 (tr 5 (by decide) h)), (fun h => F6 (tr 6 (by decide) h)), (fun h => F7 (tr 7 (by decide) h)), (fun h => F8 (tr 8 (by decide) h)), (fun h => F9 (tr 9 (by decide) h)), (fun h => F10 (tr 10 (by decide) h)), (fun h => F11 (tr 11 (by decide) h)), (fun h => F12 (tr 12 (by decide) h)), (fun h => F17 (tr 17 (by decide) h)), (fun h => F13 (tr 13 (by decide) h)), (fun h => F14 (tr 14 (by decide) h)), (fun h h2 => FN (tr 13 (by decide) h) (tr 14 (by decide) h2)), (fun h => let p := F15 (tr 15 (by decide) h); ⟨(hLo 13 (by decide)).trans p.1, p.2.1, p.2.2⟩), (fun h => let p := F16 (tr 16 (by decide) h); ⟨(hLo 14 (by decide)).trans p.1, p.2.1, p.2.2⟩)⟩
          simp only [Act.put, List.setIfInBounds_toArray, List.set_cons_zero, List.set_cons_succ]
        | 3, ho, hi =>
          simp only [List.getElem?_toArray, List.getElem?_cons_succ, List.getElem?_cons_zero, Option.some.injEq] at ho
          subst ho
          clear hi
          intro L L5 a5 w5 hL hdep hL5 hLo hI
          obtain ⟨u29, u30, u31, u32, u33, u34, u35, u36, u37, u28, u38, u39, u40, u12, u13, u14, gb, kb, rfl, hb, F0, F1, F2, F3, F4, F5, F6, F7, F8, F9, F10, F11, F12, F17, F13, F14, FN, F15, F16⟩ := hI
          have tr : ∀ j, j ≠ 3 → L5 j = true → L j = true := fun j hj h => by rw [← hLo j hj]; exact h
          have d2 : L 2 = true := hdep ⟨2, .data⟩ (by simp) rfl
          clear hdep
          obtain rfl := F2 d2
          intro K5 hK
          rw [if_pos (by rfl)]
          simp only [Act.put, List.setIfInBounds_toArray, List.set_cons_zero, List.set_cons_succ]
          have HH := Lib.hid (And.intro tr <| And.intro hK <| And.intro hLo <| And.intro hL <| And.intro hL5 <| And.intro hb <| And.intro F0 <| And.intro F1 <| And.intro F2 <| And.intro F3 <| And.intro F4 <| And.intro F5 <| And.intro F6 <| And.intro F7 <| And.intro F8 <| And.intro F9 <| And.intro F10 <| And.intro F11 <| And.intro F12 <| And.intro F17 <| And.intro F13 <| And.intro F14 <| And.intro FN <| And.intro F15 <| And.intro F16 <| And.intro d2 <| trivial)
          clear d2 F16 F15 FN F14 F13 F17 F12 F11 F10 F9 F8 F7 F6 F5 F4 F3 F2 F1 F0 hb hL5 hL hLo hK tr
          go_simp
          go_at_call 23
          refine (toPoint_any _ _ _).mono ?_
          rintro en w6 ⟨rfl, hm⟩
          try dsimp only
          obtain ⟨tr, hK, hLo, hL, hL5, hb, F0, F1, F2, F3, F4, F5, F6, F7, F8, F9, F10, F11, F12, F17, F13, F14, FN, F15, F16, d2, -⟩ := HH.out
          refine hK _ _ ⟨_, _, _, _, _, _, _, _, _, _, _, _, _, _, _, _, _, _, ?_, (hb.trans (hm.mono hb.size)), (fun h => F0 (tr 0 (by decide) h)), (fun h => F1 (tr 1 (by decide) h)), (fun h => F2 (tr 2 (by decide) h)), (fun _ => rfl), (fun h => F4 (tr 4 (by decide) h)), (fun h => F5 (tr 5 (by decide) h)), (fun h => F6 (tr 6 (by decide) h)), (fun h => F7 (tr 7 (by decide) h)), (fun h => F8 (tr 8 (by decide) h)), (fun h => F9 (tr 9 (by decide) h)), (fun h => F10 (tr 10 (by decide) h)), (fun h => F11 (tr 11 (by decide) h)), (fun h => F12 (tr 12 (by decide) h)), (fun h => F17 (tr 17 (by decide) h)), (fun h => let p := F13 (tr 13 (by decide) h); ⟨p.1, p.2.1, p.2.2.keep hm⟩), (fun h => let p := F14 (tr 14 (by decide) h); ⟨p.1, p.2.1, p.2.2.keep hm⟩), (fun h h2 => FN (tr 13 (by decide) h) (tr 14 (by decide) h2)), (fun h => let p := F15 (tr 15 (by decide) h); ⟨(hLo 13 (by decide)).trans p.1, later hm p.2.1, later hm p.2.2⟩), (fun h => let p := F16 (tr 16 (by decide) h); ⟨(hLo 14 (by decide)).trans p.1, later hm p.2.1, later hm p.2.2⟩)⟩
          simp only [Act.put, List.setIfInBounds_toArray, List.set_cons_zero, List.set_cons_succ]
        | 4, ho, hi =>
          simp only [List.getElem?_toArray, List.getElem?_cons_succ, List.getElem?_cons_zero, Option.some.injEq] at ho
          subst ho
          clear hi
          intro L L5 a5 w5 hL hdep hL5 hLo hI
          obtain ⟨u29, u30, u31, u32, u33, u34, u35, u36, u37, u28, u38, u39, u40, u12, u13, u14, gb, kb, rfl, hb, F0, F1, F2, F3, F4, F5, F6, F7, F8, F9, F10, F11, F12, F17, F13, F14, FN, F15, F16⟩ := hI
          have tr : ∀ j, j ≠ 4 → L5 j = true → L j = true := fun j hj h => by rw [← hLo j hj]; exact h
          clear hdep
          intro K5 hK
          rw [if_pos (by rfl)]
          simp only [Act.put, List.setIfInBounds_toArray, List.set_cons_zero, List.set_cons_succ]
          have c0 := later hb f17
          have c1 := later hb f18
          have HH := Lib.hid (And.intro tr <| And.intro hK <| And.intro hLo <| And.intro hL <| And.intro hL5 <| And.intro hb <| And.intro F0 <| And.intro F1 <| And.intro F2 <| And.intro F3 <| And.intro F4 <| And.intro F5 <| And.intro F6 <| And.intro F7 <| And.intro F8 <| And.intro F9 <| And.intro F10 <| And.intro F11 <| And.intro F12 <| And.intro F17 <| And.intro F13 <| And.intro F14 <| And.intro FN <| And.intro F15 <| And.intro F16 <| trivial)
          clear F16 F15 FN F14 F13 F17 F12 F11 F10 F9 F8 F7 F6 F5 F4 F3 F2 F1 F0 hb hL5 hL hLo hK tr
          go_simp
          obtain ⟨tr, hK, hLo, hL, hL5, hb, F0, F1, F2, F3, F4, F5, F6, F7, F8, F9, F10, F11, F12, F17, F13, F14, FN, F15, F16, -⟩ := HH.out
          refine hK _ _ ⟨_, _, _, _, _, _, _, _, _, _, _, _, _, _, _, _, _, _, ?_, hb, (fun h => F0 (tr 0 (by decide) h)), (fun h => F1 (tr 1 (by decide) h)), (fun h => F2 (tr 2 (by decide) h)), (fun h => F3 (tr 3 (by decide) h)), (fun _ => rfl), (fun h => F5 (tr 5 (by decide) h)), (fun h => F6 (tr 6 (by decide) h)), (fun h => F7 (tr 7 (by decide) h)), (fun h => F8 (tr 8 (by decide) h)), (fun h => F9 (tr 9 (by decide) h)), (fun h => F10 (tr 10 (by decide) h)), (fun h => F11 (tr 11 (by decide) h)), (fun h => F12 (tr 12 (by decide) h)), (fun h => F17 (tr 17 (by decide) h)), (fun h => F13 (tr 13 (by decide) h)), (fun h => F14 (tr 14 (by decide) h)), (fun h h2 => FN (tr 13 (by decide) h) (tr 14 (by decide) h2)), (fun h => let p := F15 (tr 15 (by decide) h); ⟨(hLo 13 (by decide)).trans p.1, p.2.1, p.2.2⟩), (fun h => let p := F16 (tr 16 (by decide) h); ⟨(hLo 14 (by decide)).trans p.1, p.2.1, p.2.2⟩)⟩
          simp only [Act.put, List.setIfInBounds_toArray, List.set_cons_zero, List.set_cons_succ]
        | 5, ho, hi =>
          simp only [List.getElem?_toArray, List.getElem?_cons_succ, List.getElem?_cons_zero, Option.some.injEq] at ho
          subst ho
          clear hi
          intro L L5 a5 w5 hL hdep hL5 hLo hI
          obtain ⟨u29, u30, u31, u32, u33, u34, u35, u36, u37, u28, u38, u39, u40, u12, u13, u14, gb, kb, rfl, hb, F0, F1, F2, F3, F4, F5, F6, F7, F8, F9, F10, F11, F12, F17, F13, F14, FN, F15, F16⟩ := hI
          have tr : ∀ j, j ≠ 5 → L5 j = true → L j = true := fun j hj h => by rw [← hLo j hj]; exact h
          have d4 : L 4 = true := hdep ⟨4, .data⟩ (by simp) rfl
          clear hdep
          obtain rfl := F4 d4
          intro K5 hK
          rw [if_pos (by rfl)]
          simp only [Act.put, List.setIfInBounds_toArray, List.set_cons_zero, List.set_cons_succ]
          have HH := Lib.hid (And.intro tr <| And.intro hK <| And.intro hLo <| And.intro hL <| And.intro hL5 <| And.intro hb <| And.intro F0 <| And.intro F1 <| And.intro F2 <| And.intro F3 <| And.intro F4 <| And.intro F5 <| And.intro F6 <| And.intro F7 <| And.intro F8 <| And.intro F9 <| And.intro F10 <| And.intro F11 <| And.intro F12 <| And.intro F17 <| And.intro F13 <| And.intro F14 <| And.intro FN <| And.intro F15 <| And.intro F16 <| And.intro d4 <| trivial)
          clear d4 F16 F15 FN F14 F13 F17 F12 F11 F10 F9 F8 F7 F6 F5 F4 F3 F2 F1 F0 hb hL5 hL hLo hK tr
          go_simp
          go_at_call 23
          refine (toPoint_any _ _ _).mono ?_
          rintro en w6 ⟨rfl, hm⟩
          try dsimp only
          obtain ⟨tr, hK, hLo, hL, hL5, hb, F0, F1, F2, F3, F4, F5, F6, F7, F8, F9, F10, F11, F12, F17, F13, F14, FN, F15, F16, d4, -⟩ := HH.out
          refine hK _ _ ⟨_, _, _, _, _, _, _, _, _, _, _, _, _, _, _, _, _, _, ?_, (hb.trans (hm.mono hb.size)), (fun h => F0 (tr 0 (by decide) h)), (fun h => F1 (tr 1 (by decide) h)), (fun h => F2 (tr 2 (by decide) h)), (fun h => F3 (tr 3 (by decide) h)), (fun h => F4 (tr 4 (by decide) h)), (fun _ => rfl), (fun h => F6 (tr 6 (by decide) h)), (fun h => F7 (tr 7 (by decide) h)), (fun h => F8 (tr 8 (by decide) h)), (fun h => F9 (tr 9 (by decide) h)), (fun h => F10 (tr 10 (by decide) h)), (fun h => F11 (tr 11 (by decide) h)), (fun h => F12 (tr 12 (by decide) h)), (fun h => F17 (tr 17 (by decide) h)), (fun h => let p := F13 (tr 13 (by decide) h); ⟨p.1, p.2.1, p.2.2.keep hm⟩), (fun h => let p := F14 (tr 14 (by decide) h); ⟨p.1, p.2.1, p.2.2.keep hm⟩), (fun h h2 => FN (tr 13 (by decide) h) (tr 14 (by decide) h2)), (fun h => let p := F15 (tr 15 (by decide) h); ⟨(hLo 13 (by decide)).trans p.1, later hm p.2.1, later hm p.2.2⟩), (fun h => let p := F16 (tr 16 (by decide) h); ⟨(hLo 14 (by decide)).trans p.1, later hm p.2.1, later hm p.2.2⟩)⟩
          simp only [Act.put, List.setIfInBounds_toArray, List.set_cons_zero, List.set_cons_succ]
        | 6, ho, hi =>
          simp only [List.getElem?_toArray, List.getElem?_cons_succ, List.getElem?_cons_zero, Option.some.injEq] at ho
          subst ho
          clear hi
          intro L L5 a5 w5 hL hdep hL5 hLo hI
          obtain ⟨u29, u30, u31, u32, u33, u34, u35, u36, u37, u28, u38, u39, u40, u12, u13, u14, gb, kb, rfl, hb, F0, F1, F2, F3, F4, F5, F6, F7, F8, F9, F10, F11, F12, F17, F13, F14, FN, F15, F16⟩ := hI
          have tr : ∀ j, j ≠ 6 → L5 j = true → L j = true := fun j hj h => by rw [← hLo j hj]; exact h
          clear hdep
          intro K5 hK
          rw [if_pos (by rfl)]
          simp only [Act.put, List.setIfInBounds_toArray, List.set_cons_zero, List.set_cons_succ]
          have c0 := later hb f19
          have c1 := later hb f20
          have HH := Lib.hid (And.intro tr <| And.intro hK <| And.intro hLo <| And.intro hL <| And.intro hL5 <| And.intro hb <| And.intro F0 <| And.intro F1 <| And.intro F2 <| And.intro F3 <| And.intro F4 <| And.intro F5 <| And.intro F6 <| And.intro F7 <| And.intro F8 <| And.intro F9 <| And.intro F10 <| And.intro F11 <| And.intro F12 <| And.intro F17 <| And.intro F13 <| And.intro F14 <| And.intro FN <| And.intro F15 <| And.intro F16 <| trivial)
          clear F16 F15 FN F14 F13 F17 F12 F11 F10 F9 F8 F7 F6 F5 F4 F3 F2 F1 F0 hb hL5 hL hLo hK tr
          go_simp
          obtain ⟨tr, hK, hLo, hL, hL5, hb, F0, F1, F2, F3, F4, F5, F6, F7, F8, F9, F10, F11, F12, F17, F13, F14, FN, F15, F16, -⟩ := HH.out
          refine hK _ _ ⟨_, _, _, _, _, _, _, _, _, _, _, _, _, _, _, _, _, _, ?_, hb, (fun h => F0 (tr 0 (by decide) h)), (fun h => F1 (tr 1 (by decide) h)), (fun h => F2 (tr 2 (by decide) h)), (fun h => F3 (tr 3 (by decide) h)), (fun h => F4 (tr 4 (by decide) h)), (fun h => F5 (tr 5 (by decide) h)), (fun _ => rfl), (fun h => F7 (tr 7 (by decide) h)), (fun h => F8 (tr 8 (by decide) h)), (fun h => F9 (tr 9 (by decide) h)), (fun h => F10 (tr 10 (by decide) h)), (fun h => F11 (tr 11 (by decide) h)), (fun h => F12 (tr 12 (by decide) h)), (fun h => F17 (tr 17 (by decide) h)), (fun h => F13 (tr 13 (by decide) h)), (fun h => F14 (tr 14 (by decide) h)), (fun h h2 => FN (tr 13 (by decide) h) (tr 14 (by decide) h2)), (fun h => let p := F15 (tr 15 (by decide) h); ⟨(hLo 13 (by decide)).trans p.1, p.2.1, p.2.2⟩), (fun h => let p := F16 (tr 16 (by decide) h); ⟨(hLo 14 (by decide)).trans p.1, p.2.1, p.2.2⟩)⟩
          simp only [Act.put, List.setIfInBounds_toArray, List.set_cons_zero, List.set_cons_succ]
        | 7, ho, hi =>
          simp only [List.getElem?_toArray, List.getElem?_cons_succ, List.getElem?_cons_zero, Option.some.injEq] at ho
          subst ho
          clear hi
          intro L L5 a5 w5 hL hdep hL5 hLo hI
          obtain ⟨u29, u30, u31, u32, u33, u34, u35, u36, u37, u28, u38, u39, u40, u12, u13, u14, gb, kb, rfl, hb, F0, F1, F2, F3, F4, F5, F6, F7, F8, F9, F10, F11, F12, F17, F13, F14, FN, F15, F16⟩ := hI
          have tr : ∀ j, j ≠ 7 → L5 j = true → L j = true := fun j hj h => by rw [← hLo j hj]; exact h
          have d6 : L 6 = true := hdep ⟨6, .data⟩ (by simp) rfl
          clear hdep
          obtain rfl := F6 d6
          intro K5 hK
          rw [if_pos (by rfl)]
          simp only [Act.put, List.setIfInBounds_toArray, List.set_cons_zero, List.set_cons_succ]
          have HH := Lib.hid (And.intro tr <| And.intro hK <| And.intro hLo <| And.intro hL <| And.intro hL5 <| And.intro hb <| And.intro F0 <| And.intro F1 <| And.intro F2 <| And.intro F3 <| And.intro F4 <| And.intro F5 <| And.intro F6 <| And.intro F7 <| And.intro F8 <| And.intro F9 <| And.intro F10 <| And.intro F11 <| And.intro F12 <| And.intro F17 <| And.intro F13 <| And.intro F14 <| And.intro FN <| And.intro F15 <| And.intro F16 <| And.intro d6 <| trivial)
          clear d6 F16 F15 FN F14 F13 F17 F12 F11 F10 F9 F8 F7 F6 F5 F4 F3 F2 F1 F0 hb hL5 hL hLo hK tr
          go_simp
          go_at_call 23
          refine (toPoint_any _ _ _).mono ?_
          rintro en w6 ⟨rfl, hm⟩
          try dsimp only
          obtain ⟨tr, hK, hLo, hL, hL5, hb, F0, F1, F2, F3, F4, F5, F6, F7, F8, F9, F10, F11, F12, F17, F13, F14, FN, F15, F16, d6, -⟩ := HH.out
          refine hK _ _ ⟨_, _, _, _, _, _, _, _, _, _, _, _, _, _, _, _, _, _, ?_, (hb.trans (hm.mono hb.size)), (fun h => F0 (tr 0 (by decide) h)), (fun h => F1 (tr 1 (by decide) h)), (fun h => F2 (tr 2 (by decide) h)), (fun h => F3 (tr 3 (by decide) h)), (fun h => F4 (tr 4 (by decide) h)), (fun h => F5 (tr 5 (by decide) h)), (fun h => F6 (tr 6 (by decide) h)), (fun _ => rfl), (fun h => F8 (tr 8 (by decide) h)), (fun h => F9 (tr 9 (by decide) h)), (fun h => F10 (tr 10 (by decide) h)), (fun h => F11 (tr 11 (by decide) h)), (fun h => F12 (tr 12 (by decide) h)), (fun h => F17 (tr 17 (by decide) h)), (fun h => let p := F13 (tr 13 (by decide) h); ⟨p.1, p.2.1, p.2.2.keep hm⟩), (fun h => let p := F14 (tr 14 (by decide) h); ⟨p.1, p.2.1, p.2.2.keep hm⟩), (fun h h2 => FN (tr 13 (by decide) h) (tr 14 (by decide) h2)), (fun h => let p := F15 (tr 15 (by decide) h); ⟨(hLo 13 (by decide)).trans p.1, later hm p.2.1, later hm p.2.2⟩), (fun h => let p := F16 (tr 16 (by decide) h); ⟨(hLo 14 (by decide)).trans p.1, later hm p.2.1, later hm p.2.2⟩)⟩
          simp only [Act.put, List.setIfInBounds_toArray, List.set_cons_zero, List.set_cons_succ]
        | 8, ho, hi =>
          simp only [List.getElem?_toArray, List.getElem?_cons_succ, List.getElem?_cons_zero, Option.some.injEq] at ho
          subst ho
          clear hi
          intro L L5 a5 w5 hL hdep hL5 hLo hI
          obtain ⟨u29, u30, u31, u32, u33, u34, u35, u36, u37, u28, u38, u39, u40, u12, u13, u14, gb, kb, rfl, hb, F0, F1, F2, F3, F4, F5, F6, F7, F8, F9, F10, F11, F12, F17, F13, F14, FN, F15, F16⟩ := hI
          have tr : ∀ j, j ≠ 8 → L5 j = true → L j = true := fun j hj h => by rw [← hLo j hj]; exact h
          have d1 : L 1 = true := hdep ⟨1, .data⟩ (by simp) rfl
          have d3 : L 3 = true := hdep ⟨3, .data⟩ (by simp) rfl
          have d5 : L 5 = true := hdep ⟨5, .data⟩ (by simp) rfl
          have d7 : L 7 = true := hdep ⟨7, .data⟩ (by simp) rfl
          clear hdep
          obtain rfl := F1 d1
          obtain rfl := F3 d3
          obtain rfl := F5 d5
          obtain rfl := F7 d7
          intro K5 hK
          rw [if_pos (by rfl)]
          simp only [Act.put, List.setIfInBounds_toArray, List.set_cons_zero, List.set_cons_succ]
          have HH := Lib.hid (And.intro tr <| And.intro hK <| And.intro hLo <| And.intro hL <| And.intro hL5 <| And.intro hb <| And.intro F0 <| And.intro F1 <| And.intro F2 <| And.intro F3 <| And.intro F4 <| And.intro F5 <| And.intro F6 <| And.intro F7 <| And.intro F8 <| And.intro F9 <| And.intro F10 <| And.intro F11 <| And.intro F12 <| And.intro F17 <| And.intro F13 <| And.intro F14 <| And.intro FN <| And.intro F15 <| And.intro F16 <| And.intro d1 <| And.intro d3 <| And.intro d5 <| And.intro d7 <| trivial)
          clear d7 d5 d3 d1 F16 F15 FN F14 F13 F17 F12 F11 F10 F9 F8 F7 F6 F5 F4 F3 F2 F1 F0 hb hL5 hL hLo hK tr
          go_simp
          go_at_call 61
          refine (iFixL_any _ _ _ _ _ _ _ _ X9 x9 Y9 y9 k9 _ HFX).mono ?_
          rintro en w6 ⟨rfl, hm⟩
          try dsimp only
          obtain ⟨tr, hK, hLo, hL, hL5, hb, F0, F1, F2, F3, F4, F5, F6, F7, F8, F9, F10, F11, F12, F17, F13, F14, FN, F15, F16, d1, d3, d5, d7, -⟩ := HH.out
          refine hK _ _ ⟨_, _, _, _, _, _, _, _, _, _, _, _, _, _, _, _, _, _, ?_, (hb.trans (hm.mono hb.size)), (fun h => F0 (tr 0 (by decide) h)), (fun h => F1 (tr 1 (by decide) h)), (fun h => F2 (tr 2 (by decide) h)), (fun h => F3 (tr 3 (by decide) h)), (fun h => F4 (tr 4 (by decide) h)), (fun h => F5 (tr 5 (by decide) h)), (fun h => F6 (tr 6 (by decide) h)), (fun h => F7 (tr 7 (by decide) h)), (fun _ => rfl), (fun h => F9 (tr 9 (by decide) h)), (fun h => F10 (tr 10 (by decide) h)), (fun h => F11 (tr 11 (by decide) h)), (fun h => F12 (tr 12 (by decide) h)), (fun h => F17 (tr 17 (by decide) h)), (fun h => let p := F13 (tr 13 (by decide) h); ⟨p.1, p.2.1, p.2.2.keep hm⟩), (fun h => let p := F14 (tr 14 (by decide) h); ⟨p.1, p.2.1, p.2.2.keep hm⟩), (fun h h2 => FN (tr 13 (by decide) h) (tr 14 (by decide) h2)), (fun h => let p := F15 (tr 15 (by decide) h); ⟨(hLo 13 (by decide)).trans p.1, later hm p.2.1, later hm p.2.2⟩), (fun h => let p := F16 (tr 16 (by decide) h); ⟨(hLo 14 (by decide)).trans p.1, later hm p.2.1, later hm p.2.2⟩)⟩
          simp only [Act.put, List.setIfInBounds_toArray, List.set_cons_zero, List.set_cons_succ]
        | 9, ho, hi =>
          simp only [List.getElem?_toArray, List.getElem?_cons_succ, List.getElem?_cons_zero, Option.some.injEq] at ho
          subst ho
          clear hi
          intro L L5 a5 w5 hL hdep hL5 hLo hI
          obtain ⟨u29, u30, u31, u32, u33, u34, u35, u36, u37, u28, u38, u39, u40, u12, u13, u14, gb, kb, rfl, hb, F0, F1, F2, F3, F4, F5, F6, F7, F8, F9, F10, F11, F12, F17, F13, F14, FN, F15, F16⟩ := hI
          have tr : ∀ j, j ≠ 9 → L5 j = true → L j = true := fun j hj h => by rw [← hLo j hj]; exact h
          have d8 : L 8 = true := hdep ⟨8, .data⟩ (by simp) rfl
          clear hdep
          obtain rfl := F8 d8
          intro K5 hK
          rw [if_pos (by rfl)]
          simp only [Act.put, List.setIfInBounds_toArray, List.set_cons_zero, List.set_cons_succ]
          have HH := Lib.hid (And.intro tr <| And.intro hK <| And.intro hLo <| And.intro hL <| And.intro hL5 <| And.intro hb <| And.intro F0 <| And.intro F1 <| And.intro F2 <| And.intro F3 <| And.intro F4 <| And.intro F5 <| And.intro F6 <| And.intro F7 <| And.intro F8 <| And.intro F9 <| And.intro F10 <| And.intro F11 <| And.intro F12 <| And.intro F17 <| And.intro F13 <| And.intro F14 <| And.intro FN <| And.intro F15 <| And.intro F16 <| And.intro d8 <| trivial)
          clear d8 F16 F15 FN F14 F13 F17 F12 F11 F10 F9 F8 F7 F6 F5 F4 F3 F2 F1 F0 hb hL5 hL hLo hK tr
          go_simp
          obtain ⟨tr, hK, hLo, hL, hL5, hb, F0, F1, F2, F3, F4, F5, F6, F7, F8, F9, F10, F11, F12, F17, F13, F14, FN, F15, F16, d8, -⟩ := HH.out
          refine hK _ _ ⟨_, _, _, _, _, _, _, _, _, _, _, _, _, _, _, _, _, _, ?_, hb, (fun h => F0 (tr 0 (by decide) h)), (fun h => F1 (tr 1 (by decide) h)), (fun h => F2 (tr 2 (by decide) h)), (fun h => F3 (tr 3 (by decide) h)), (fun h => F4 (tr 4 (by decide) h)), (fun h => F5 (tr 5 (by decide) h)), (fun h => F6 (tr 6 (by decide) h)), (fun h => F7 (tr 7 (by decide) h)), (fun h => F8 (tr 8 (by decide) h)), (fun _ => rfl), (fun h => F10 (tr 10 (by decide) h)), (fun h => F11 (tr 11 (by decide) h)), (fun h => F12 (tr 12 (by decide) h)), (fun h => F17 (tr 17 (by decide) h)), (fun h => F13 (tr 13 (by decide) h)), (fun h => F14 (tr 14 (by decide) h)), (fun h h2 => FN (tr 13 (by decide) h) (tr 14 (by decide) h2)), (fun h => let p := F15 (tr 15 (by decide) h); ⟨(hLo 13 (by decide)).trans p.1, p.2.1, p.2.2⟩), (fun h => let p := F16 (tr 16 (by decide) h); ⟨(hLo 14 (by decide)).trans p.1, p.2.1, p.2.2⟩)⟩
          simp only [Act.put, List.setIfInBounds_toArray, List.set_cons_zero, List.set_cons_succ]
        | 10, ho, hi =>
          simp only [List.getElem?_toArray, List.getElem?_cons_succ, List.getElem?_cons_zero, Option.some.injEq] at ho
          subst ho
          clear hi
          intro L L5 a5 w5 hL hdep hL5 hLo hI
          obtain ⟨u29, u30, u31, u32, u33, u34, u35, u36, u37, u28, u38, u39, u40, u12, u13, u14, gb, kb, rfl, hb, F0, F1, F2, F3, F4, F5, F6, F7, F8, F9, F10, F11, F12, F17, F13, F14, FN, F15, F16⟩ := hI
          have tr : ∀ j, j ≠ 10 → L5 j = true → L j = true := fun j hj h => by rw [← hLo j hj]; exact h
          have d9 : L 9 = true := hdep ⟨9, .data⟩ (by simp) rfl
          clear hdep
          obtain rfl := F9 d9
          intro K5 hK
          rw [if_pos (by rfl)]
          simp only [Act.put, List.setIfInBounds_toArray, List.set_cons_zero, List.set_cons_succ]
          have HH := Lib.hid (And.intro tr <| And.intro hK <| And.intro hLo <| And.intro hL <| And.intro hL5 <| And.intro hb <| And.intro F0 <| And.intro F1 <| And.intro F2 <| And.intro F3 <| And.intro F4 <| And.intro F5 <| And.intro F6 <| And.intro F7 <| And.intro F8 <| And.intro F9 <| And.intro F10 <| And.intro F11 <| And.intro F12 <| And.intro F17 <| And.intro F13 <| And.intro F14 <| And.intro FN <| And.intro F15 <| And.intro F16 <| And.intro d9 <| trivial)
          clear d9 F16 F15 FN F14 F13 F17 F12 F11 F10 F9 F8 F7 F6 F5 F4 F3 F2 F1 F0 hb hL5 hL hLo hK tr
          go_simp
          obtain ⟨tr, hK, hLo, hL, hL5, hb, F0, F1, F2, F3, F4, F5, F6, F7, F8, F9, F10, F11, F12, F17, F13, F14, FN, F15, F16, d9, -⟩ := HH.out
          refine hK _ _ ⟨_, _, _, _, _, _, _, _, _, _, _, _, _, _, _, _, _, _, ?_, hb, (fun h => F0 (tr 0 (by decide) h)), (fun h => F1 (tr 1 (by decide) h)), (fun h => F2 (tr 2 (by decide) h)), (fun h => F3 (tr 3 (by decide) h)), (fun h => F4 (tr 4 (by decide) h)), (fun h => F5 (tr 5 (by decide) h)), (fun h => F6 (tr 6 (by decide) h)), (fun h => F7 (tr 7 (by decide) h)), (fun h => F8 (tr 8 (by decide) h)), (fun h => F9 (tr 9 (by decide) h)), (fun _ => rfl), (fun h => F11 (tr 11 (by decide) h)), (fun h => F12 (tr 12 (by decide) h)), (fun h => F17 (tr 17 (by decide) h)), (fun h => F13 (tr 13 (by decide) h)), (fun h => F14 (tr 14 (by decide) h)), (fun h h2 => FN (tr 13 (by decide) h) (tr 14 (by decide) h2)), (fun h => let p := F15 (tr 15 (by decide) h); ⟨(hLo 13 (by decide)).trans p.1, p.2.1, p.2.2⟩), (fun h => let p := F16 (tr 16 (by decide) h); ⟨(hLo 14 (by decide)).trans p.1, p.2.1, p.2.2⟩)⟩
          simp only [Act.put, List.setIfInBounds_toArray, List.set_cons_zero, List.set_cons_succ]
        | 11, ho, hi =>
          simp only [List.getElem?_toArray, List.getElem?_cons_succ, List.getElem?_cons_zero, Option.some.injEq] at ho
          subst ho
          clear hi
          intro L L5 a5 w5 hL hdep hL5 hLo hI
          obtain ⟨u29, u30, u31, u32, u33, u34, u35, u36, u37, u28, u38, u39, u40, u12, u13, u14, gb, kb, rfl, hb, F0, F1, F2, F3, F4, F5, F6, F7, F8, F9, F10, F11, F12, F17, F13, F14, FN, F15, F16⟩ := hI
          have tr : ∀ j, j ≠ 11 → L5 j = true → L j = true := fun j hj h => by rw [← hLo j hj]; exact h
          have d9 : L 9 = true := hdep ⟨9, .data⟩ (by simp) rfl
          clear hdep
          obtain rfl := F9 d9
          intro K5 hK
          rw [if_pos (by rfl)]
          simp only [Act.put, List.setIfInBounds_toArray, List.set_cons_zero, List.set_cons_succ]
          have HH := Lib.hid (And.intro tr <| And.intro hK <| And.intro hLo <| And.intro hL <| And.intro hL5 <| And.intro hb <| And.intro F0 <| And.intro F1 <| And.intro F2 <| And.intro F3 <| And.intro F4 <| And.intro F5 <| And.intro F6 <| And.intro F7 <| And.intro F8 <| And.intro F9 <| And.intro F10 <| And.intro F11 <| And.intro F12 <| And.intro F17 <| And.intro F13 <| And.intro F14 <| And.intro FN <| And.intro F15 <| And.intro F16 <| And.intro d9 <| trivial)
          clear d9 F16 F15 FN F14 F13 F17 F12 F11 F10 F9 F8 F7 F6 F5 F4 F3 F2 F1 F0 hb hL5 hL hLo hK tr
          go_simp
          obtain ⟨tr, hK, hLo, hL, hL5, hb, F0, F1, F2, F3, F4, F5, F6, F7, F8, F9, F10, F11, F12, F17, F13, F14, FN, F15, F16, d9, -⟩ := HH.out
          refine hK _ _ ⟨_, _, _, _, _, _, _, _, _, _, _, _, _, _, _, _, _, _, ?_, hb, (fun h => F0 (tr 0 (by decide) h)), (fun h => F1 (tr 1 (by decide) h)), (fun h => F2 (tr 2 (by decide) h)), (fun h => F3 (tr 3 (by decide) h)), (fun h => F4 (tr 4 (by decide) h)), (fun h => F5 (tr 5 (by decide) h)), (fun h => F6 (tr 6 (by decide) h)), (fun h => F7 (tr 7 (by decide) h)), (fun h => F8 (tr 8 (by decide) h)), (fun h => F9 (tr 9 (by decide) h)), (fun h => F10 (tr 10 (by decide) h)), (fun _ => rfl), (fun h => F12 (tr 12 (by decide) h)), (fun h => F17 (tr 17 (by decide) h)), (fun h => F13 (tr 13 (by decide) h)), (fun h => F14 (tr 14 (by decide) h)), (fun h h2 => FN (tr 13 (by decide) h) (tr 14 (by decide) h2)), (fun h => let p := F15 (tr 15 (by decide) h); ⟨(hLo 13 (by decide)).trans p.1, p.2.1, p.2.2⟩), (fun h => let p := F16 (tr 16 (by decide) h); ⟨(hLo 14 (by decide)).trans p.1, p.2.1, p.2.2⟩)⟩
          simp only [Act.put, List.setIfInBounds_toArray, List.set_cons_zero, List.set_cons_succ]
        | 12, ho, hi =>
          simp only [List.getElem?_toArray, List.getElem?_cons_succ, List.getElem?_cons_zero, Option.some.injEq] at ho
          subst ho
          clear hi
          intro L L5 a5 w5 hL hdep hL5 hLo hI
          obtain ⟨u29, u30, u31, u32, u33, u34, u35, u36, u37, u28, u38, u39, u40, u12, u13, u14, gb, kb, rfl, hb, F0, F1, F2, F3, F4, F5, F6, F7, F8, F9, F10, F11, F12, F17, F13, F14, FN, F15, F16⟩ := hI
          have tr : ∀ j, j ≠ 12 → L5 j = true → L j = true := fun j hj h => by rw [← hLo j hj]; exact h
          have d9 : L 9 = true := hdep ⟨9, .data⟩ (by simp) rfl
          clear hdep
          obtain rfl := F9 d9
          intro K5 hK
          rw [if_pos (by rfl)]
          simp only [Act.put, List.setIfInBounds_toArray, List.set_cons_zero, List.set_cons_succ]
          have HH := Lib.hid (And.intro tr <| And.intro hK <| And.intro hLo <| And.intro hL <| And.intro hL5 <| And.intro hb <| And.intro F0 <| And.intro F1 <| And.intro F2 <| And.intro F3 <| And.intro F4 <| And.intro F5 <| And.intro F6 <| And.intro F7 <| And.intro F8 <| And.intro F9 <| And.intro F10 <| And.intro F11 <| And.intro F12 <| And.intro F17 <| And.intro F13 <| And.intro F14 <| And.intro FN <| And.intro F15 <| And.intro F16 <| And.intro d9 <| trivial)
          clear d9 F16 F15 FN F14 F13 F17 F12 F11 F10 F9 F8 F7 F6 F5 F4 F3 F2 F1 F0 hb hL5 hL hLo hK tr
          go_simp
          obtain ⟨tr, hK, hLo, hL, hL5, hb, F0, F1, F2, F3, F4, F5, F6, F7, F8, F9, F10, F11, F12, F17, F13, F14, FN, F15, F16, d9, -⟩ := HH.out
          refine hK _ _ ⟨_, _, _, _, _, _, _, _, _, _, _, _, _, _, _, _, _, _, ?_, hb, (fun h => F0 (tr 0 (by decide) h)), (fun h => F1 (tr 1 (by decide) h)), (fun h => F2 (tr 2 (by decide) h)), (fun h => F3 (tr 3 (by decide) h)), (fun h => F4 (tr 4 (by decide) h)), (fun h => F5 (tr 5 (by decide) h)), (fun h => F6 (tr 6 (by decide) h)), (fun h => F7 (tr 7 (by decide) h)), (fun h => F8 (tr 8 (by decide) h)), (fun h => F9 (tr 9 (by decide) h)), (fun h => F10 (tr 10 (by decide) h)), (fun h => F11 (tr 11 (by decide) h)), (fun _ => rfl), (fun h => F17 (tr 17 (by decide) h)), (fun h => F13 (tr 13 (by decide) h)), (fun h => F14 (tr 14 (by decide) h)), (fun h h2 => FN (tr 13 (by decide) h) (tr 14 (by decide) h2)), (fun h => let p := F15 (tr 15 (by decide) h); ⟨(hLo 13 (by decide)).trans p.1, p.2.1, p.2.2⟩), (fun h => let p := F16 (tr 16 (by decide) h); ⟨(hLo 14 (by decide)).trans p.1, p.2.1, p.2.2⟩)⟩
          simp only [Act.put, List.setIfInBounds_toArray, List.set_cons_zero, List.set_cons_succ]
        | 13, ho, hi =>
          simp only [List.getElem?_toArray, List.getElem?_cons_succ, List.getElem?_cons_zero, Option.some.injEq] at ho
          subst ho
          clear hi
          intro L L5 a5 w5 hL hdep hL5 hLo hI
          obtain ⟨u29, u30, u31, u32, u33, u34, u35, u36, u37, u28, u38, u39, u40, u12, u13, u14, gb, kb, rfl, hb, F0, F1, F2, F3, F4, F5, F6, F7, F8, F9, F10, F11, F12, F17, F13, F14, FN, F15, F16⟩ := hI
          have tr : ∀ j, j ≠ 13 → L5 j = true → L j = true := fun j hj h => by rw [← hLo j hj]; exact h
          clear hdep
          intro K5 hK
          rw [if_pos (by rfl)]
          simp only [Act.put, List.setIfInBounds_toArray, List.set_cons_zero, List.set_cons_succ]
          have HH := Lib.hid (And.intro tr <| And.intro hK <| And.intro hLo <| And.intro hL <| And.intro hL5 <| And.intro hb <| And.intro F0 <| And.intro F1 <| And.intro F2 <| And.intro F3 <| And.intro F4 <| And.intro F5 <| And.intro F6 <| And.intro F7 <| And.intro F8 <| And.intro F9 <| And.intro F10 <| And.intro F11 <| And.intro F12 <| And.intro F17 <| And.intro F13 <| And.intro F14 <| And.intro FN <| And.intro F15 <| And.intro F16 <| trivial)
          clear F16 F15 FN F14 F13 F17 F12 F11 F10 F9 F8 F7 F6 F5 F4 F3 F2 F1 F0 hb hL5 hL hLo hK tr
          go_simp
          have hm : Below w5.heap.size w5 (w5.alloc (Obj.cells #[.int .i64 0, .int .i64 0] 73)) := Below.alloc (Below.refl _ _) (Nat.le_refl _) _
          obtain ⟨tr, hK, hLo, hL, hL5, hb, F0, F1, F2, F3, F4, F5, F6, F7, F8, F9, F10, F11, F12, F17, F13, F14, FN, F15, F16, -⟩ := HH.out
          refine hK _ _ ⟨_, _, _, _, _, _, _, _, _, _, _, _, _, _, _, _, w5.heap.size, kb, ?_, (hb.trans (hm.mono hb.size)), (fun h => F0 (tr 0 (by decide) h)), (fun h => F1 (tr 1 (by decide) h)), (fun h => F2 (tr 2 (by decide) h)), (fun h => F3 (tr 3 (by decide) h)), (fun h => F4 (tr 4 (by decide) h)), (fun h => F5 (tr 5 (by decide) h)), (fun h => F6 (tr 6 (by decide) h)), (fun h => F7 (tr 7 (by decide) h)), (fun h => F8 (tr 8 (by decide) h)), (fun h => F9 (tr 9 (by decide) h)), (fun h => F10 (tr 10 (by decide) h)), (fun h => F11 (tr 11 (by decide) h)), (fun h => F12 (tr 12 (by decide) h)), (fun h => F17 (tr 17 (by decide) h)), (fun _ => ⟨rfl, hb.size, ⟨⟨.int .i64 0, by go_simp⟩, ⟨.int .i64 0, by go_simp⟩, by go_simp, by go_simp⟩⟩), (fun h => let p := F14 (tr 14 (by decide) h); ⟨p.1, p.2.1, p.2.2.keep hm⟩), (fun _ h => (Nat.ne_of_lt (F14 (tr 14 (by decide) h)).2.2.lt).symm), (fun h => absurd (F15 (tr 15 (by decide) h)).1 (by rw [hL]; decide)), (fun h => let p := F16 (tr 16 (by decide) h); ⟨(hLo 14 (by decide)).trans p.1, later hm p.2.1, later hm p.2.2⟩)⟩
          simp only [Act.put, List.setIfInBounds_toArray, List.set_cons_zero, List.set_cons_succ]
        | 14, ho, hi =>
          simp only [List.getElem?_toArray, List.getElem?_cons_succ, List.getElem?_cons_zero, Option.some.injEq] at ho
          subst ho
          clear hi
          intro L L5 a5 w5 hL hdep hL5 hLo hI
          obtain ⟨u29, u30, u31, u32, u33, u34, u35, u36, u37, u28, u38, u39, u40, u12, u13, u14, gb, kb, rfl, hb, F0, F1, F2, F3, F4, F5, F6, F7, F8, F9, F10, F11, F12, F17, F13, F14, FN, F15, F16⟩ := hI
          have tr : ∀ j, j ≠ 14 → L5 j = true → L j = true := fun j hj h => by rw [← hLo j hj]; exact h
          clear hdep
          intro K5 hK
          rw [if_pos (by rfl)]
          simp only [Act.put, List.setIfInBounds_toArray, List.set_cons_zero, List.set_cons_succ]
          have HH := Lib.hid (And.intro tr <| And.intro hK <| And.intro hLo <| And.intro hL <| And.intro hL5 <| And.intro hb <| And.intro F0 <| And.intro F1 <| And.intro F2 <| And.intro F3 <| And.intro F4 <| And.intro F5 <| And.intro F6 <| And.intro F7 <| And.intro F8 <| And.intro F9 <| And.intro F10 <| And.intro F11 <| And.intro F12 <| And.intro F17 <| And.intro F13 <| And.intro F14 <| And.intro FN <| And.intro F15 <| And.intro F16 <| trivial)
          clear F16 F15 FN F14 F13 F17 F12 F11 F10 F9 F8 F7 F6 F5 F4 F3 F2 F1 F0 hb hL5 hL hLo hK tr
          go_simp
          have hm : Below w5.heap.size w5 (w5.alloc (Obj.cells #[.int .i64 0, .int .i64 0] 73)) := Below.alloc (Below.refl _ _) (Nat.le_refl _) _
          obtain ⟨tr, hK, hLo, hL, hL5, hb, F0, F1, F2, F3, F4, F5, F6, F7, F8, F9, F10, F11, F12, F17, F13, F14, FN, F15, F16, -⟩ := HH.out
          refine hK _ _ ⟨_, _, _, _, _, _, _, _, _, _, _, _, _, _, _, _, gb, w5.heap.size, ?_, (hb.trans (hm.mono hb.size)), (fun h => F0 (tr 0 (by decide) h)), (fun h => F1 (tr 1 (by decide) h)), (fun h => F2 (tr 2 (by decide) h)), (fun h => F3 (tr 3 (by decide) h)), (fun h => F4 (tr 4 (by decide) h)), (fun h => F5 (tr 5 (by decide) h)), (fun h => F6 (tr 6 (by decide) h)), (fun h => F7 (tr 7 (by decide) h)), (fun h => F8 (tr 8 (by decide) h)), (fun h => F9 (tr 9 (by decide) h)), (fun h => F10 (tr 10 (by decide) h)), (fun h => F11 (tr 11 (by decide) h)), (fun h => F12 (tr 12 (by decide) h)), (fun h => F17 (tr 17 (by decide) h)), (fun h => let p := F13 (tr 13 (by decide) h); ⟨p.1, p.2.1, p.2.2.keep hm⟩), (fun _ => ⟨rfl, hb.size, ⟨⟨.int .i64 0, by go_simp⟩, ⟨.int .i64 0, by go_simp⟩, by go_simp, by go_simp⟩⟩), (fun h _ => Nat.ne_of_lt (F13 (tr 13 (by decide) h)).2.2.lt), (fun h => let p := F15 (tr 15 (by decide) h); ⟨(hLo 13 (by decide)).trans p.1, later hm p.2.1, later hm p.2.2⟩), (fun h => absurd (F16 (tr 16 (by decide) h)).1 (by rw [hL]; decide))⟩
          simp only [Act.put, List.setIfInBounds_toArray, List.set_cons_zero, List.set_cons_succ]
        | 15, ho, hi =>
          simp only [List.getElem?_toArray, List.getElem?_cons_succ, List.getElem?_cons_zero, Option.some.injEq] at ho
          subst ho
          clear hi
          intro L L5 a5 w5 hL hdep hL5 hLo hI
          obtain ⟨u29, u30, u31, u32, u33, u34, u35, u36, u37, u28, u38, u39, u40, u12, u13, u14, gb, kb, rfl, hb, F0, F1, F2, F3, F4, F5, F6, F7, F8, F9, F10, F11, F12, F17, F13, F14, FN, F15, F16⟩ := hI
          have tr : ∀ j, j ≠ 15 → L5 j = true → L j = true := fun j hj h => by rw [← hLo j hj]; exact h
          have d13 : L 13 = true := hdep ⟨13, .data⟩ (by simp) rfl
          have d10 : L 10 = true := hdep ⟨10, .data⟩ (by simp) rfl
          clear hdep
          obtain ⟨rfl, hg, hx⟩ := F13 d13
          obtain rfl := F10 d10
          intro K5 hK
          rw [if_pos (by rfl)]
          simp only [Act.put, List.setIfInBounds_toArray, List.set_cons_zero, List.set_cons_succ]
          obtain ⟨⟨y0, hy0⟩, ⟨y1, hy1⟩, f0, f1⟩ := id hx
          have HH := Lib.hid (And.intro tr <| And.intro hK <| And.intro hLo <| And.intro hL <| And.intro hL5 <| And.intro hb <| And.intro F0 <| And.intro F1 <| And.intro F2 <| And.intro F3 <| And.intro F4 <| And.intro F5 <| And.intro F6 <| And.intro F7 <| And.intro F8 <| And.intro F9 <| And.intro F10 <| And.intro F11 <| And.intro F12 <| And.intro F17 <| And.intro F13 <| And.intro F14 <| And.intro FN <| And.intro F15 <| And.intro F16 <| And.intro d13 <| And.intro d10 <| And.intro hg <| And.intro hx <| trivial)
          clear hx hg d10 d13 F16 F15 FN F14 F13 F17 F12 F11 F10 F9 F8 F7 F6 F5 F4 F3 F2 F1 F0 hb hL5 hL hLo hK tr
          go_simp
          clear hy0 hy1 f0 f1
          obtain ⟨tr, hK, hLo, hL, hL5, hb, F0, F1, F2, F3, F4, F5, F6, F7, F8, F9, F10, F11, F12, F17, F13, F14, FN, F15, F16, d13, d10, hg, hx, -⟩ := HH.out
          refine hK _ _ ⟨_, _, _, _, _, _, _, _, _, _, _, _, _, _, _, _, gb, kb, ?_, ((hb.setCell hg _).setCell hg _), (fun h => F0 (tr 0 (by decide) h)), (fun h => F1 (tr 1 (by decide) h)), (fun h => F2 (tr 2 (by decide) h)), (fun h => F3 (tr 3 (by decide) h)), (fun h => F4 (tr 4 (by decide) h)), (fun h => F5 (tr 5 (by decide) h)), (fun h => F6 (tr 6 (by decide) h)), (fun h => F7 (tr 7 (by decide) h)), (fun h => F8 (tr 8 (by decide) h)), (fun h => F9 (tr 9 (by decide) h)), (fun h => F10 (tr 10 (by decide) h)), (fun h => F11 (tr 11 (by decide) h)), (fun h => F12 (tr 12 (by decide) h)), (fun h => F17 (tr 17 (by decide) h)), (fun h => ⟨rfl, hg, hx.set⟩), (fun h => let p := F14 (tr 14 (by decide) h); ⟨p.1, p.2.1, p.2.2.far (FN d13 (tr 14 (by decide) h)).symm⟩), (fun h h2 => FN (tr 13 (by decide) h) (tr 14 (by decide) h2)), (fun h => ⟨(hLo 13 (by decide)).trans d13, hx.setc.1, hx.setc.2⟩), (fun h => let p := F16 (tr 16 (by decide) h); ⟨(hLo 14 (by decide)).trans p.1, (set2_far (FN d13 p.1).symm).trans p.2.1, (set2_far (FN d13 p.1).symm).trans p.2.2⟩)⟩
          simp only [Act.put, List.setIfInBounds_toArray, List.set_cons_zero, List.set_cons_succ]
        | 16, ho, hi =>
          simp only [List.getElem?_toArray, List.getElem?_cons_succ, List.getElem?_cons_zero, Option.some.injEq] at ho
          subst ho
          clear hi
          intro L L5 a5 w5 hL hdep hL5 hLo hI
          obtain ⟨u29, u30, u31, u32, u33, u34, u35, u36, u37, u28, u38, u39, u40, u12, u13, u14, gb, kb, rfl, hb, F0, F1, F2, F3, F4, F5, F6, F7, F8, F9, F10, F11, F12, F17, F13, F14, FN, F15, F16⟩ := hI
          have tr : ∀ j, j ≠ 16 → L5 j = true → L j = true := fun j hj h => by rw [← hLo j hj]; exact h
          have d14 : L 14 = true := hdep ⟨14, .data⟩ (by simp) rfl
          have d11 : L 11 = true := hdep ⟨11, .data⟩ (by simp) rfl
          clear hdep
          obtain ⟨rfl, hg, hx⟩ := F14 d14
          obtain rfl := F11 d11
          intro K5 hK
          rw [if_pos (by rfl)]
          simp only [Act.put, List.setIfInBounds_toArray, List.set_cons_zero, List.set_cons_succ]
          obtain ⟨⟨y0, hy0⟩, ⟨y1, hy1⟩, f0, f1⟩ := id hx
          have HH := Lib.hid (And.intro tr <| And.intro hK <| And.intro hLo <| And.intro hL <| And.intro hL5 <| And.intro hb <| And.intro F0 <| And.intro F1 <| And.intro F2 <| And.intro F3 <| And.intro F4 <| And.intro F5 <| And.intro F6 <| And.intro F7 <| And.intro F8 <| And.intro F9 <| And.intro F10 <| And.intro F11 <| And.intro F12 <| And.intro F17 <| And.intro F13 <| And.intro F14 <| And.intro FN <| And.intro F15 <| And.intro F16 <| And.intro d14 <| And.intro d11 <| And.intro hg <| And.intro hx <| trivial)
          clear hx hg d11 d14 F16 F15 FN F14 F13 F17 F12 F11 F10 F9 F8 F7 F6 F5 F4 F3 F2 F1 F0 hb hL5 hL hLo hK tr
          go_simp
          clear hy0 hy1 f0 f1
          obtain ⟨tr, hK, hLo, hL, hL5, hb, F0, F1, F2, F3, F4, F5, F6, F7, F8, F9, F10, F11, F12, F17, F13, F14, FN, F15, F16, d14, d11, hg, hx, -⟩ := HH.out
          refine hK _ _ ⟨_, _, _, _, _, _, _, _, _, _, _, _, _, _, _, _, gb, kb, ?_, ((hb.setCell hg _).setCell hg _), (fun h => F0 (tr 0 (by decide) h)), (fun h => F1 (tr 1 (by decide) h)), (fun h => F2 (tr 2 (by decide) h)), (fun h => F3 (tr 3 (by decide) h)), (fun h => F4 (tr 4 (by decide) h)), (fun h => F5 (tr 5 (by decide) h)), (fun h => F6 (tr 6 (by decide) h)), (fun h => F7 (tr 7 (by decide) h)), (fun h => F8 (tr 8 (by decide) h)), (fun h => F9 (tr 9 (by decide) h)), (fun h => F10 (tr 10 (by decide) h)), (fun h => F11 (tr 11 (by decide) h)), (fun h => F12 (tr 12 (by decide) h)), (fun h => F17 (tr 17 (by decide) h)), (fun h => let p := F13 (tr 13 (by decide) h); ⟨p.1, p.2.1, p.2.2.far (FN (tr 13 (by decide) h) d14)⟩), (fun h => ⟨rfl, hg, hx.set⟩), (fun h h2 => FN (tr 13 (by decide) h) (tr 14 (by decide) h2)), (fun h => let p := F15 (tr 15 (by decide) h); ⟨(hLo 13 (by decide)).trans p.1, (set2_far (FN p.1 d14)).trans p.2.1, (set2_far (FN p.1 d14)).trans p.2.2⟩), (fun h => ⟨(hLo 14 (by decide)).trans d14, hx.setc.1, hx.setc.2⟩)⟩
          simp only [Act.put, List.setIfInBounds_toArray, List.set_cons_zero, List.set_cons_succ]
        | 17, ho, hi =>
          simp only [List.getElem?_toArray, List.getElem?_cons_succ, List.getElem?_cons_zero, Option.some.injEq] at ho
          subst ho
          clear hi
          intro L L5 a5 w5 hL hdep hL5 hLo hI
          obtain ⟨u29, u30, u31, u32, u33, u34, u35, u36, u37, u28, u38, u39, u40, u12, u13, u14, gb, kb, rfl, hb, F0, F1, F2, F3, F4, F5, F6, F7, F8, F9, F10, F11, F12, F17, F13, F14, FN, F15, F16⟩ := hI
          have tr : ∀ j, j ≠ 17 → L5 j = true → L j = true := fun j hj h => by rw [← hLo j hj]; exact h
          have d12 : L 12 = true := hdep ⟨12, .data⟩ (by simp) rfl
          clear hdep
          obtain rfl := F12 d12
          intro K5 hK
          rw [if_pos (by rfl)]
          simp only [Act.put, List.setIfInBounds_toArray, List.set_cons_zero, List.set_cons_succ]
          have HH := Lib.hid (And.intro tr <| And.intro hK <| And.intro hLo <| And.intro hL <| And.intro hL5 <| And.intro hb <| And.intro F0 <| And.intro F1 <| And.intro F2 <| And.intro F3 <| And.intro F4 <| And.intro F5 <| And.intro F6 <| And.intro F7 <| And.intro F8 <| And.intro F9 <| And.intro F10 <| And.intro F11 <| And.intro F12 <| And.intro F17 <| And.intro F13 <| And.intro F14 <| And.intro FN <| And.intro F15 <| And.intro F16 <| And.intro d12 <| trivial)
          clear d12 F16 F15 FN F14 F13 F17 F12 F11 F10 F9 F8 F7 F6 F5 F4 F3 F2 F1 F0 hb hL5 hL hLo hK tr
          go_simp
          obtain ⟨tr, hK, hLo, hL, hL5, hb, F0, F1, F2, F3, F4, F5, F6, F7, F8, F9, F10, F11, F12, F17, F13, F14, FN, F15, F16, d12, -⟩ := HH.out
          refine hK _ _ ⟨_, _, _, _, _, _, _, _, _, _, _, _, _, _, _, _, _, _, ?_, hb, (fun h => F0 (tr 0 (by decide) h)), (fun h => F1 (tr 1 (by decide) h)), (fun h => F2 (tr 2 (by decide) h)), (fun h => F3 (tr 3 (by decide) h)), (fun h => F4 (tr 4 (by decide) h)), (fun h => F5 (tr 5 (by decide) h)), (fun h => F6 (tr 6 (by decide) h)), (fun h => F7 (tr 7 (by decide) h)), (fun h => F8 (tr 8 (by decide) h)), (fun h => F9 (tr 9 (by decide) h)), (fun h => F10 (tr 10 (by decide) h)), (fun h => F11 (tr 11 (by decide) h)), (fun h => F12 (tr 12 (by decide) h)), (fun _ => rfl), (fun h => F13 (tr 13 (by decide) h)), (fun h => F14 (tr 14 (by decide) h)), (fun h h2 => FN (tr 13 (by decide) h) (tr 14 (by decide) h2)), (fun h => let p := F15 (tr 15 (by decide) h); ⟨(hLo 13 (by decide)).trans p.1, p.2.1, p.2.2⟩), (fun h => let p := F16 (tr 16 (by decide) h); ⟨(hLo 14 (by decide)).trans p.1, p.2.1, p.2.2⟩)⟩
          simp only [Act.put, List.setIfInBounds_toArray, List.set_cons_zero, List.set_cons_succ]
        | k + 18, ho, hi => exact absurd hi (by simp)
    case rest =>
      obtain ⟨gb, kb, rfl, rfl, rfl, c0b, c1b, c2b, c3b, gs0b, gs1b, hxb⟩ := hcut
      have hB3 := hxb
      have f27 := later hB3 c0a
      have f28 := later hB3 c1a
      have f29 := later hB3 c2a
      have f30 := later hB3 c3a
      have f31 := later hB3 f13
      have f32 := later hB3 f14
      have f33 := later hB3 f15
      have f34 := later hB3 f16
      have f35 := later hB3 f17
      have f36 := later hB3 f18
      have f37 := later hB3 f19
      have f38 := later hB3 f20
      have l39 : gb < wc.heap.size := World.block_lt_of_cell? _ _ c0b
      have l40 : kb < wc.heap.size := World.block_lt_of_cell? _ _ c2b
      have l41 : ga < wc.heap.size := World.block_lt_of_cell? _ _ f27
      have l42 : ka < wc.heap.size := World.block_lt_of_cell? _ _ f29
      have l43 : w.heap.size < wc.heap.size := World.block_lt_of_cell? _ _ f31
      have l44 : w.heap.size + 1 < wc.heap.size := World.block_lt_of_cell? _ _ f33
      have l45 : w.heap.size + 2 < wc.heap.size := World.block_lt_of_cell? _ _ f35
      have l46 : w.heap.size + 3 < wc.heap.size := World.block_lt_of_cell? _ _ f37
      have hW3 := bseq hB1 (bseq hB2 (hB3))
      have hZ3 := hW3.size
      obtain ⟨wb, rfl⟩ : ∃ X : World, X = wc := ⟨_, rfl⟩
      go_wp2_with fail
      refine (eqRatio_any _ _ _).mono ?_
      rintro en w4 ⟨rfl, hb4⟩
      have hB4 : Below wb.heap.size wb w4 := by first | exact hb4 | exact Below.trans (by repeat (first | exact Below.refl _ _ | refine Below.drew ?_ | refine below_drewN ?_ _ | refine Below.alloc ?_ (by (try simp only [World.size_alloc, World.size_drew, size_drewN, World.size_setCell]); omega) _ | refine Below.setCell ?_ (by (try dsimp only); omega) _)) (hb4.mono (by (try simp only [World.size_alloc, World.size_drew, size_drewN, World.size_setCell]); omega))
      have f47 := later hB4 c0b
      have f48 := later hB4 c1b
      have f49 := later hB4 c2b
      have f50 := later hB4 c3b
      have f51 := later hB4 f27
      have f52 := later hB4 f28
      have f53 := later hB4 f29
      have f54 := later hB4 f30
      have f55 := later hB4 f31
      have f56 := later hB4 f32
      have f57 := later hB4 f33
      have f58 := later hB4 f34
      have f59 := later hB4 f35
      have f60 := later hB4 f36
      have f61 := later hB4 f37
      have f62 := later hB4 f38
      have l63 : gb < w4.heap.size := World.block_lt_of_cell? _ _ f47
      have l64 : kb < w4.heap.size := World.block_lt_of_cell? _ _ f49
      have l65 : ga < w4.heap.size := World.block_lt_of_cell? _ _ f51
      have l66 : ka < w4.heap.size := World.block_lt_of_cell? _ _ f53
      have l67 : w.heap.size < w4.heap.size := World.block_lt_of_cell? _ _ f55
      have l68 : w.heap.size + 1 < w4.heap.size := World.block_lt_of_cell? _ _ f57
      have l69 : w.heap.size + 2 < w4.heap.size := World.block_lt_of_cell? _ _ f59
      have l70 : w.heap.size + 3 < w4.heap.size := World.block_lt_of_cell? _ _ f61
      have hW4 := bseq hB1 (bseq hB2 (bseq hB3 (hB4)))
      have hZ4 := hW4.size
      go_wp2_with fail
      refine (eqRatio_any _ _ _).mono ?_
      rintro en w5 ⟨rfl, hb5⟩
      have hB5 : Below w4.heap.size w4 w5 := by first | exact hb5 | exact Below.trans (by repeat (first | exact Below.refl _ _ | refine Below.drew ?_ | refine below_drewN ?_ _ | refine Below.alloc ?_ (by (try simp only [World.size_alloc, World.size_drew, size_drewN, World.size_setCell]); omega) _ | refine Below.setCell ?_ (by (try dsimp only); omega) _)) (hb5.mono (by (try simp only [World.size_alloc, World.size_drew, size_drewN, World.size_setCell]); omega))
      have f71 := later hB5 f47
      have f72 := later hB5 f48
      have f73 := later hB5 f49
      have f74 := later hB5 f50
      have f75 := later hB5 f51
      have f76 := later hB5 f52
      have f77 := later hB5 f53
      have f78 := later hB5 f54
      have f79 := later hB5 f55
      have f80 := later hB5 f56
      have f81 := later hB5 f57
      have f82 := later hB5 f58
      have f83 := later hB5 f59
      have f84 := later hB5 f60
      have f85 := later hB5 f61
      have f86 := later hB5 f62
      have l87 : gb < w5.heap.size := World.block_lt_of_cell? _ _ f71
      have l88 : kb < w5.heap.size := World.block_lt_of_cell? _ _ f73
      have l89 : ga < w5.heap.size := World.block_lt_of_cell? _ _ f75
      have l90 : ka < w5.heap.size := World.block_lt_of_cell? _ _ f77
      have l91 : w.heap.size < w5.heap.size := World.block_lt_of_cell? _ _ f79
      have l92 : w.heap.size + 1 < w5.heap.size := World.block_lt_of_cell? _ _ f81
      have l93 : w.heap.size + 2 < w5.heap.size := World.block_lt_of_cell? _ _ f83
      have l94 : w.heap.size + 3 < w5.heap.size := World.block_lt_of_cell? _ _ f85
      have hW5 := bseq hB1 (bseq hB2 (bseq hB3 (bseq hB4 (hB5))))
      have hZ5 := hW5.size
      go_wp2_with (go_ret; exact ⟨rfl, (by first | exact hW5 | (have hx := hW5; go_grown))⟩)
end Go.Proofs.Ytoccglmlpobeeaa
