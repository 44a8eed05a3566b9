/- plain: meetings, by letters -/
import Derived.Test.YtoccglmlpobeeaaPlainM
import Derived.Test.YtoccglmlpobeeaaPlainT
set_option linter.unusedVariables false
set_option linter.unusedSimpArgs false
namespace Go.Proofs.Ytoccglmlpobeeaa
open Go.RowKit

/-- what two tracks answer, by letters -/
def MtV (p q r s t u v z X Y K T U J : Int) (M : Bool) (C : Int) : Prop :=
  X = onTr csX 0 p q r s t u v z ∧ Y = onTr csY 0 p q r s t u v z ∧ K = onTr csC 1 p q r s t u v z ∧ T = onTr ctX 0 p q r s t u v z ∧ U = onTr ctY 0 p q r s t u v z ∧ J = onTr ctC 1 p q r s t u v z ∧ M = doMeet p q r s t u v z ∧ C = trkCode p q r s t u v z
theorem mt_letters (p q r s t u v z : Int) : ∃ X Y K T U J : Int, ∃ M : Bool, ∃ C : Int, Hid (MtV p q r s t u v z X Y K T U J M C) := ⟨_, _, _, _, _, _, _, _, rfl, rfl, rfl, rfl, rfl, rfl, rfl, rfl⟩
theorem mt_ok {p q r s t u v z X Y K T U J : Int} {M : Bool} {C : Int} (H : Hid (MtV p q r s t u v z X Y K T U J M C)) (hK : K = 0) : trk2 p q r s t u v z = true ∧ csC (t - p) (u - q) (v - r) (z - s) = 0 := by
  have h := H.out.2.2.1
  rw [hK] at h
  unfold onTr at h
  split at h
  · exact ⟨by assumption, h.symm⟩
  · cases h
theorem mt_rel {p q r s t u v z : Int} (h : trk2 p q r s t u v z = true) : (-200000 ≤ t - p ∧ t - p ≤ 200000) ∧ (-200000 ≤ u - q ∧ u - q ≤ 200000) ∧ (-2000 ≤ v - r ∧ v - r ≤ 2000) ∧ (-2000 ≤ z - s ∧ z - s ≤ 2000) := by
  obtain ⟨b1, b2⟩ := trk2_bd h
  unfold TrB at b1 b2
  omega
theorem mt_1 {p q r s t u v z X Y K T U J : Int} {M : Bool} {C : Int} (H : Hid (MtV p q r s t u v z X Y K T U J M C)) (hK : K = 0) : M = (X == 0) ∧ 0 ≤ T := by
  obtain ⟨h1, h2⟩ := mt_ok H hK
  obtain ⟨a1, a2, a3, a4⟩ := mt_rel h1
  have e1 := H.out.1
  have e4 := H.out.2.2.2.1
  have e7 := H.out.2.2.2.2.2.2.1
  unfold onTr at e1 e4
  rw [h1, if_pos rfl] at e1 e4
  unfold doMeet at e7
  rw [h1, Bool.true_and, mt_meets a1 a2 a3 a4 h2, ← e1] at e7
  exact ⟨e7, by rw [e4]; exact mt_time a3 a4⟩
def PosV (p q r s t x y k : Int) : Prop := x = posX p q r s t ∧ y = posY p q r s t ∧ k = posCode p q r s t
theorem pos_val {p q r s t x y k : Int} (H : Hid (PosV p q r s t x y k)) (hk : k = 0) : x = p + t * r ∧ y = q + t * s ∧ (-100000 ≤ x ∧ x ≤ 100000) ∧ (-100000 ≤ y ∧ y ≤ 100000) := by
  obtain ⟨e1, e2, e3⟩ := H.out
  have k2 := pos_ok (e3.symm.trans hk)
  unfold posX at e1; unfold posY at e2
  rw [if_pos k2] at e1 e2
  unfold posOk posIn at k2; simp only [Bool.and_eq_true, isPt_iff] at k2
  rw [e1, e2]
  exact ⟨rfl, rfl, by omega, by omega⟩
theorem mt_2 {p q r s t u v z X Y K T U J : Int} {M : Bool} {C m x1 y1 k1 x2 y2 k2 : Int} (H : Hid (MtV p q r s t u v z X Y K T U J M C)) (hK : K = 0) (hm : 0 ≤ m) (P : Hid (PosV p q r s m x1 y1 k1)) (Q : Hid (PosV t u v z m x2 y2 k2)) (e1 : k1 = 0) (e2 : k2 = 0) :
    (-100000 ≤ x1 ∧ x1 ≤ 100000) ∧ (-100000 ≤ y1 ∧ y1 ≤ 100000) ∧ (-100000 ≤ x2 ∧ x2 ≤ 100000) ∧ (-100000 ≤ y2 ∧ y2 ≤ 100000) ∧
    (0 ≤ (x1 - x2) * (x1 - x2) ∧ (x1 - x2) * (x1 - x2) ≤ 40000000000) ∧ (0 ≤ (y1 - y2) * (y1 - y2) ∧ (y1 - y2) * (y1 - y2) ≤ 40000000000) ∧
    (0 ≤ ((x1 - x2) * (x1 - x2) + (y1 - y2) * (y1 - y2)) * Y ∧ ((x1 - x2) * (x1 - x2) + (y1 - y2) * (y1 - y2)) * Y ≤ 640000000000000000) ∧
    X ≤ ((x1 - x2) * (x1 - x2) + (y1 - y2) * (y1 - y2)) * Y := by
  obtain ⟨h1, h2⟩ := mt_ok H hK
  obtain ⟨a1, a2, a3, a4⟩ := mt_rel h1
  obtain ⟨p1, p2, p3, p4⟩ := pos_val P e1
  obtain ⟨q1, q2, q3, q4⟩ := pos_val Q e2
  have m1 := mulB (a := x1 - x2) (b := x1 - x2) (m := 200000) (k := 200000) (by omega) (by omega) (by decide) (by decide)
  have m2 := mulB (a := y1 - y2) (b := y1 - y2) (m := 200000) (k := 200000) (by omega) (by omega) (by decide) (by decide)
  have s1 := sq_pos (a := x1 - x2); have s2 := sq_pos (a := y1 - y2)
  have eX := H.out.1
  have eY := H.out.2.1
  unfold onTr at eX eY
  rw [h1, if_pos rfl] at eX eY
  have c := mt_close (t := m) (x := x2 - x1) (y := y2 - y1) a1 a2 a3 a4 hm h2 (by rw [p1, q1]; grind) (by rw [p2, q2]; grind)
  have d := mt_bound (a := t - p) (b := u - q) (x := x2 - x1) (y := y2 - y1) a3 a4 h2 (by omega) (by omega)
  rw [← eX, ← eY] at c
  rw [← eY] at d
  have f1 : (x2 - x1) * (x2 - x1) = (x1 - x2) * (x1 - x2) := by grind
  have f2 : (y2 - y1) * (y2 - y1) = (y1 - y2) * (y1 - y2) := by grind
  rw [f1, f2] at c d
  exact ⟨p3, p4, q3, q4, ⟨s1, by omega⟩, ⟨s2, by omega⟩, d, c⟩
end Go.Proofs.Ytoccglmlpobeeaa
