/- slices.Sort at int64, laid; its contract -/
import Derived.Test.YtgfhmihnnjcagaaProg
import Derived.Test.YtgfhmihnnjcagaaPlainPk
import Derived.Test.YtgfhmihnnjcagaaW15
import Derived.Shelf.SortG.Plain
import Derived.Shelf.SortG.SortNone
set_option linter.unusedVariables false
set_option linter.unusedSimpArgs false
namespace Go.Proofs.Ytgfhmihnnjcagaa
open Go.RowKit Go.Shelf
def laySort_ren : Go.Shelf.Ren := ⟨fun | 53 => 84 | 64 => 119 | 63 => 118 | 78 => 133 | 79 => 134 | 70 => 124 | 71 => 125 | 72 => 126 | 73 => 127 | 74 => 128 | 75 => 129 | 59 => 130 | 76 => 131 | 77 => 132 | 88 => 136 | 89 => 137 | 90 => 138 | 91 => 139 | 92 => 140 | 68 => 141 | 96 => 144 | n => n, fun | 22 => 22 | 23 => 2 | 3 => 3 | 51 => 76 | 0 => 0 | 67 => 99 | 69 => 52 | 4 => 4 | 61 => 91 | 60 => 90 | 44 => 96 | 5 => 5 | 9 => 9 | 75 => 103 | 79 => 107 | 83 => 113 | 84 => 114 | n => n, fun | n => n⟩
theorem laySort : Go.Proofs.SlLaysN.n53 Try.prog laySort_ren := {
  mixed := by kernel_rfl
  f53 := ⟨Try.f84.name, by decide, Try.func84.trans (congrArg some (by kernel_rfl))⟩
  f59 := ⟨Try.f130.name, by decide, Try.func130.trans (congrArg some (by kernel_rfl))⟩
  f63 := ⟨Try.f118.name, by decide, Try.func118.trans (congrArg some (by kernel_rfl))⟩
  f64 := Try.func119.trans (congrArg some (by kernel_rfl))
  f68 := ⟨Try.f141.name, by decide, Try.func141.trans (congrArg some (by kernel_rfl))⟩
  f70 := ⟨Try.f124.name, by decide, Try.func124.trans (congrArg some (by kernel_rfl))⟩
  f71 := ⟨Try.f125.name, by decide, Try.func125.trans (congrArg some (by kernel_rfl))⟩
  f72 := ⟨Try.f126.name, by decide, Try.func126.trans (congrArg some (by kernel_rfl))⟩
  f73 := ⟨Try.f127.name, by decide, Try.func127.trans (congrArg some (by kernel_rfl))⟩
  f74 := ⟨Try.f128.name, by decide, Try.func128.trans (congrArg some (by kernel_rfl))⟩
  f75 := ⟨Try.f129.name, by decide, Try.func129.trans (congrArg some (by kernel_rfl))⟩
  f76 := ⟨Try.f131.name, by decide, Try.func131.trans (congrArg some (by kernel_rfl))⟩
  f77 := ⟨Try.f132.name, by decide, Try.func132.trans (congrArg some (by kernel_rfl))⟩
  f78 := Try.func133.trans (congrArg some (by kernel_rfl))
  f79 := Try.func134.trans (congrArg some (by kernel_rfl))
  f88 := ⟨Try.f136.name, by decide, Try.func136.trans (congrArg some (by kernel_rfl))⟩
  f89 := Try.func137.trans (congrArg some (by kernel_rfl))
  f90 := Try.func138.trans (congrArg some (by kernel_rfl))
  f91 := ⟨Try.f139.name, by decide, Try.func139.trans (congrArg some (by kernel_rfl))⟩
  f92 := ⟨Try.f140.name, by decide, Try.func140.trans (congrArg some (by kernel_rfl))⟩
  f96 := ⟨Try.f144.name, by decide, Try.func144.trans (congrArg some (by kernel_rfl))⟩
  t0 := Try.underlying0
  a0 := Try.isAgg0
  z0 := Try.sizeOf0
  v0 := Try.zeroValue0
  t3 := Try.underlying3
  a3 := Try.isAgg3
  z3 := Try.sizeOf3
  v3 := Try.zeroValue3
  t4 := Try.underlying4
  a4 := Try.isAgg4
  z4 := Try.sizeOf4
  v4 := Try.zeroValue4
  t5 := Try.underlying5
  a5 := Try.isAgg5
  z5 := Try.sizeOf5
  v5 := Try.zeroValue5
  t9 := Try.underlying9
  a9 := Try.isAgg9
  z9 := Try.sizeOf9
  v9 := Try.zeroValue9
  t22 := Try.underlying22
  a22 := Try.isAgg22
  z22 := Try.sizeOf22
  v22 := Try.zeroValue22
  t23 := Try.underlying2
  a23 := Try.isAgg2
  z23 := Try.sizeOf2
  v23 := Try.zeroValue2
  t44 := Try.underlying96
  a44 := Try.isAgg96
  z44 := Try.sizeOf96
  v44 := Try.zeroValue96
  t51 := Try.underlying76
  a51 := Try.isAgg76
  z51 := Try.sizeOf76
  v51 := Try.zeroValue76
  t60 := Try.underlying90
  a60 := Try.isAgg90
  z60 := Try.sizeOf90
  v60 := Try.zeroValue90
  t61 := Try.underlying91
  a61 := Try.isAgg91
  z61 := Try.sizeOf91
  v61 := Try.zeroValue91
  t67 := Try.underlying99
  a67 := Try.isAgg99
  z67 := Try.sizeOf99
  v67 := Try.zeroValue99
  t69 := Try.underlying52
  a69 := Try.isAgg52
  z69 := Try.sizeOf52
  v69 := Try.zeroValue52
  t75 := Try.underlying103
  a75 := Try.isAgg103
  z75 := Try.sizeOf103
  v75 := Try.zeroValue103
  t79 := Try.underlying107
  a79 := Try.isAgg107
  z79 := Try.sizeOf107
  v79 := Try.zeroValue107
  t83 := Try.underlying113
  a83 := Try.isAgg113
  z83 := Try.sizeOf113
  v83 := Try.zeroValue113
  t84 := Try.underlying114
  a84 := Try.isAgg114
  z84 := Try.sizeOf114
  v84 := Try.zeroValue114 }

open Go.Sort in
theorem sort_cells (g cap : Nat) (ys : List Int) (w : World) (hc : Cells w g 0 ys) (h0 : 0 < ys.length) (hl : ys.length ≤ 1048576) :
    Calls Try.prog 84 #[.slice (some ⟨g, 0, none⟩) ys.length cap] w fun en w9 => en = .returned (.tuple #[]) ∧ Cells w9 g 0 (srt ys) ∧ w.grownBy w9 (some g) := by
  have hlt : g < w.heap.size := hc.lt h0
  have hH : Holds (Value.int .i64) w g 0 ys.toArray := fun j hj => by
    have hj : j < ys.length := by simpa using hj
    have e : ys.toArray[j]! = ys.getD j 0 := by simp [hj]
    rw [e]; exact ⟨hc.1 j hj, hc.2 j hj⟩
  refine (AnyG.slices_Sort_int laySort g 0 cap ys w hH hlt (by omega)).mono ?_
  rintro en w9 ⟨rfl, n, os, rfl⟩
  have hs : (ys.mergeSort fun x y => decide (x ≤ y)) = srt ys := rfl
  rw [hs]
  have hz : (putRow (Value.int .i64) (Sort.ahead w n) g 0 (srt ys).toArray).heap.size = w.heap.size := by simp [putRow, mapBlock, Sort.ahead]
  have hH2 : Holds (Value.int .i64) (grow (putRow (Value.int .i64) (Sort.ahead w n) g 0 (srt ys).toArray) os) g 0 (srt ys).toArray :=
    holds_grow _ _ _ _ _ _ (by rw [hz]; exact hlt) (holds_putRow _ _ _ _ ys.toArray _ (holds_ahead _ _ _ _ _ _ hH) (by simp [srt_len]))
  refine ⟨rfl, ⟨fun k hk => ?_, fun k hk => ?_⟩, ⟨rfl, rfl, rfl, ?_, fun k hk hne => ?_⟩⟩
  · have h2 := (hH2 k (by simpa using hk)).1
    have e : (srt ys).toArray[k]! = (srt ys).getD k 0 := by simp [hk]
    rw [e] at h2; exact h2
  · exact (hH2 k (by simpa using hk)).2
  · show w.heap.size ≤ (_ ++ os).size
    rw [Array.size_append, hz]; omega
  · have hne2 : g ≠ k := fun e => hne (by rw [e])
    rw [heap_grow_old _ _ (by rw [hz]; exact hk)]
    show (w.heap.modify g _)[k]? = _
    rw [Array.getElem?_modify, if_neg hne2]
theorem sort_own (B : Nat) (v : Value) (ys : List Int) (w : World) (h : OwnV w B v ys) (hl : ys.length ≤ 1048576) :
    Calls Try.prog 84 #[v] w fun en w9 => en = .returned (.tuple #[]) ∧ OwnQ w9 B v (srt ys) ∧ Below B w w9 := by
  obtain ⟨A, c, rfl, hR⟩ := h.R
  rcases Nat.eq_zero_or_pos ys.length with h0 | h0
  · have e : srt ys = [] := List.eq_nil_of_length_eq_zero (by rw [srt_len, h0])
    have e2 : ys = [] := List.eq_nil_of_length_eq_zero h0
    rw [e]
    subst e2
    refine (AnyG.slices_Sort_int_none laySort A c w).mono ?_
    rintro en w9 ⟨rfl, rfl⟩
    exact ⟨rfl, ⟨A, c, rfl, hR⟩, Below.refl _ _⟩
  · rcases hR.2.2 with ⟨_, h1⟩ | ⟨g, rfl, hB, hg, hc⟩
    · omega
    · refine (sort_cells g c ys w hc h0 hl).mono ?_
      rintro en w9 ⟨rfl, hc9, hg9⟩
      refine ⟨rfl, ⟨some ⟨g, 0, none⟩, c, by rw [srt_len], rfl, by rw [srt_len]; exact hR.2.1, .inr ⟨g, rfl, hB, Nat.lt_of_lt_of_le hg hg9.size, hc9⟩⟩, ?_⟩
      exact (Below.refl B w).grown hg9 (by omega) (fun k hk => by injection hk with hk; omega)
end Go.Proofs.Ytgfhmihnnjcagaa
