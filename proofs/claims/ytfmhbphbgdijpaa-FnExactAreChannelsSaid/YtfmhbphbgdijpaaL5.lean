/- the law, walked: AreChannels -/
import Derived.Test.YtfmhbphbgdijpaaW6
set_option linter.unusedVariables false
set_option linter.unusedSimpArgs false
namespace Go.Proofs.Ytfmhbphbgdijpaa
open Go.RowKit
set_option maxRecDepth 100000 in
set_option maxHeartbeats 8000000 in
theorem lawCh_any (A : Option Addr) (n c : Nat) (rows : List (List Int)) (w : World) (hn_rows : rows.length = n) (hc_rows : n ≤ 9223372036854775807) (hr_rows : RdM w A rows) :
    Calls Try.prog 5 #[.slice A n c] w fun en w9 => en = .returned (.bool true) ∧ Below w.heap.size w w9 := by
  go_enter Try.func5, Try.ntmps5
  have hr1_rows := hr_rows
  have R_rows := Lib.hid hr1_rows
  clear hr1_rows hr_rows
  go_wp2_with fail
  refine (szSS_any A n c rows _ hn_rows hc_rows (R_rows.out.below (Below.refl _ _))).mono ?_
  rintro en wz ⟨z, rfl, rfl, HZ⟩
  by_cases hz : 0 ≤ z
  rotate_left
  · have hz2 : z < 0 := by omega
    go_wp2
    go_ret
    exact ⟨rfl, (Below.refl _ _)⟩
  have hz2 : ¬ z < 0 := by omega
  have hz9 := HZ hz
  have htot : totTo rows n ≤ 1048576 := by omega
  have hnn : n ≤ 1048576 := by omega
  have hrow_rows : ∀ k, k < n → (rows.getD k []).length ≤ 1048576 := fun k hk => Nat.le_trans (totTo_row hk) htot
  clear hz9 HZ
  go_wp2_with fail
  refine (toSS_any A n c rows _ hn_rows (by omega) hrow_rows (R_rows.out.below (Below.refl _ _))).mono ?_
  rintro en w1 ⟨rfl, hO, hb⟩
  have hz1 := hb.size
  have HB1 := Lib.hid hb
  have K1_s0 := Lib.hid (hO)
  clear hb hO
  go_wp2_with fail
  refine (sCh_any _ n n rows _ hn_rows hnn hrow_rows K1_s0.out.rdM).mono ?_
  rintro en w2 ⟨rfl, mq, hq⟩
  have hb := bquiet hq
  clear hq
  have hz2 := hb.size
  have K2_s0 := Lib.hid (K1_s0.out.below hb)
  have HB2 := Lib.hid (bseq HB1.out hb)
  clear hb K1_s0 HB1
  clear K2_s0
  go_wp2_with fail
  refine (toSS_any A n c rows _ hn_rows (by omega) hrow_rows (R_rows.out.below HB2.out)).mono ?_
  rintro en w3 ⟨rfl, hO, hb⟩
  have hz3 := hb.size
  have HB3 := Lib.hid (bseq HB2.out hb)
  have K3_x0 := Lib.hid (hO)
  clear hb HB2 hO
  go_wp2_with fail
  refine (iCh_any _ n n rows _ hn_rows hnn hrow_rows K3_x0.out.rdM).mono ?_
  rintro en w4 ⟨rfl, mq, hq⟩
  have hb := bquiet hq
  clear hq
  have hz4 := hb.size
  have K4_x0 := Lib.hid (K3_x0.out.below hb)
  have HB4 := Lib.hid (bseq HB3.out hb)
  clear hb K3_x0 HB3
  go_wp2_with fail
  refine (toSS_any A n c rows _ hn_rows (by omega) hrow_rows (R_rows.out.below HB4.out)).mono ?_
  rintro en w5 ⟨rfl, hO, hb⟩
  have hz5 := hb.size
  have K5_x0 := Lib.hid (K4_x0.out.below hb)
  have HB5 := Lib.hid (bseq HB4.out hb)
  have K5_tmp := Lib.hid (hO)
  clear hb K4_x0 HB4 hO
  go_wp2_with fail
  refine (eqSS_any _ _ n n n rows _ hn_rows (by omega) K5_x0.out.rdM K5_tmp.out.rdM).mono ?_
  rintro en w6 ⟨rfl, mq, hq⟩
  have hb := bquiet hq
  clear hq
  have hz6 := hb.size
  have K6_x0 := Lib.hid (K5_x0.out.below hb)
  have K6_tmp := Lib.hid (K5_tmp.out.below hb)
  have HB6 := Lib.hid (bseq HB5.out hb)
  clear hb K5_x0 K5_tmp HB5
  clear K6_tmp
  go_wp2
  go_ret
  exact ⟨rfl, HB6.out⟩
end Go.Proofs.Ytfmhbphbgdijpaa
