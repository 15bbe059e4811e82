/- The chapter's examples (printed by genfal.py). -/
import Derived.Test.YtkcpnclgcmnlcaaFGiv
set_option linter.unusedSimpArgs false
set_option linter.unusedVariables false
namespace Go.Proofs.Ytkcpnclgcmnlcaa
open Go.RowKit Go.Pel
set_option maxRecDepth 10000 in
set_option maxHeartbeats 4000000 in
theorem alive03_any (w : World) : Calls Try.prog 57 #[] w fun e w' => e = .returned (.bool true) ∧ ∃ x, w' = ext w x := by
  go_enter Try.func57, Try.ntmps57
  go_wp2_with (fail)
  refine (given03_any _).mono ?_
  rintro e W1 ⟨A1, c1, rfl, hq⟩
  have hq1 := own_split hq
  have hx : Bel w W1 := Bel.trans (show Bel w _ from (by (try simp only [ext_ext]); repeat (first | exact Bel.refl _ | assumption | refine bel_and ?_ _ | refine bel_drews ?_ _ | refine Bel.ext ?_ _ | refine Bel.alloc ?_ _ | refine Bel.drewN ?_ _))) (bel_of hq1)
  have O1 := own_here hq
  clear hq hq1
  have hb := hx
  clear hx
  go_wp2_with (fail)
  refine (at03l_any 0 _).mono ?_
  rintro e W2 ⟨rfl, hq⟩
  have hq1 := hq
  have hx : Bel W1 W2 := Bel.trans (show Bel W1 _ from (by (try simp only [ext_ext]); repeat (first | exact Bel.refl _ | assumption | refine bel_and ?_ _ | refine bel_drews ?_ _ | refine Bel.ext ?_ _ | refine Bel.alloc ?_ _ | refine Bel.drewN ?_ _))) (bel_of hq1)
  clear hq hq1
  replace O1 := O1.bel hx
  replace hb := hb.trans hx
  clear hx
  go_wp2_with (fail)
  refine (order_lit A1 c1 givenF 0 1 ([2, 1, 5]) 0 given0 _ (by decide) (by decide) (O1.sl.bel (by (try simp only [ext_ext]); repeat (first | exact Bel.refl _ | assumption | refine bel_and ?_ _ | refine bel_drews ?_ _ | refine Bel.ext ?_ _ | refine Bel.alloc ?_ _ | refine Bel.drewN ?_ _))) O1.nilc (by decide)).mono ?_
  rintro e W3 ⟨A2, c2, rfl, hq⟩
  have hq1 := own_split hq
  have hx : Bel W2 W3 := Bel.trans (show Bel W2 _ from (by (try simp only [ext_ext]); repeat (first | exact Bel.refl _ | assumption | refine bel_and ?_ _ | refine bel_drews ?_ _ | refine Bel.ext ?_ _ | refine Bel.alloc ?_ _ | refine Bel.drewN ?_ _))) (bel_of hq1)
  have O2 := own_here hq
  clear hq hq1
  replace hb := hb.trans hx
  clear hx O1
  go_wp2_with (fail)
  refine (given03_any _).mono ?_
  rintro e W4 ⟨A3, c3, rfl, hq⟩
  have hq1 := own_split hq
  have hx : Bel W3 W4 := Bel.trans (show Bel W3 _ from (by (try simp only [ext_ext]); repeat (first | exact Bel.refl _ | assumption | refine bel_and ?_ _ | refine bel_drews ?_ _ | refine Bel.ext ?_ _ | refine Bel.alloc ?_ _ | refine Bel.drewN ?_ _))) (bel_of hq1)
  have O3 := own_here hq
  clear hq hq1
  replace O2 := O2.bel hx
  replace hb := hb.trans hx
  clear hx
  go_wp2_with (fail)
  refine (at03l_any 2 _).mono ?_
  rintro e W5 ⟨rfl, hq⟩
  have hq1 := hq
  have hx : Bel W4 W5 := Bel.trans (show Bel W4 _ from (by (try simp only [ext_ext]); repeat (first | exact Bel.refl _ | assumption | refine bel_and ?_ _ | refine bel_drews ?_ _ | refine Bel.ext ?_ _ | refine Bel.alloc ?_ _ | refine Bel.drewN ?_ _))) (bel_of hq1)
  clear hq hq1
  replace O2 := O2.bel hx
  replace O3 := O3.bel hx
  replace hb := hb.trans hx
  clear hx
  go_wp2_with (fail)
  refine (order_lit A3 c3 givenF 2 1 ([1, 2, 5]) 0 given2 _ (by decide) (by decide) (O3.sl.bel (by (try simp only [ext_ext]); repeat (first | exact Bel.refl _ | assumption | refine bel_and ?_ _ | refine bel_drews ?_ _ | refine Bel.ext ?_ _ | refine Bel.alloc ?_ _ | refine Bel.drewN ?_ _))) O3.nilc (by decide)).mono ?_
  rintro e W6 ⟨A4, c4, rfl, hq⟩
  have hq1 := own_split hq
  have hx : Bel W5 W6 := Bel.trans (show Bel W5 _ from (by (try simp only [ext_ext]); repeat (first | exact Bel.refl _ | assumption | refine bel_and ?_ _ | refine bel_drews ?_ _ | refine Bel.ext ?_ _ | refine Bel.alloc ?_ _ | refine Bel.drewN ?_ _))) (bel_of hq1)
  have O4 := own_here hq
  clear hq hq1
  replace O2 := O2.bel hx
  replace hb := hb.trans hx
  clear hx O3
  go_wp2_with (fail)
  refine (given03_any _).mono ?_
  rintro e W7 ⟨A5, c5, rfl, hq⟩
  have hq1 := own_split hq
  have hx : Bel W6 W7 := Bel.trans (show Bel W6 _ from (by (try simp only [ext_ext]); repeat (first | exact Bel.refl _ | assumption | refine bel_and ?_ _ | refine bel_drews ?_ _ | refine Bel.ext ?_ _ | refine Bel.alloc ?_ _ | refine Bel.drewN ?_ _))) (bel_of hq1)
  have O5 := own_here hq
  clear hq hq1
  replace O2 := O2.bel hx
  replace O4 := O4.bel hx
  replace hb := hb.trans hx
  clear hx
  go_wp2_with (fail)
  refine (at03l_any 7 _).mono ?_
  rintro e W8 ⟨rfl, hq⟩
  have hq1 := hq
  have hx : Bel W7 W8 := Bel.trans (show Bel W7 _ from (by (try simp only [ext_ext]); repeat (first | exact Bel.refl _ | assumption | refine bel_and ?_ _ | refine bel_drews ?_ _ | refine Bel.ext ?_ _ | refine Bel.alloc ?_ _ | refine Bel.drewN ?_ _))) (bel_of hq1)
  clear hq hq1
  replace O2 := O2.bel hx
  replace O4 := O4.bel hx
  replace O5 := O5.bel hx
  replace hb := hb.trans hx
  clear hx
  go_wp2_with (fail)
  refine (order_lit A5 c5 givenF 7 1 ([1, 5, 2]) 0 given7 _ (by decide) (by decide) (O5.sl.bel (by (try simp only [ext_ext]); repeat (first | exact Bel.refl _ | assumption | refine bel_and ?_ _ | refine bel_drews ?_ _ | refine Bel.ext ?_ _ | refine Bel.alloc ?_ _ | refine Bel.drewN ?_ _))) O5.nilc (by decide)).mono ?_
  rintro e W9 ⟨A6, c6, rfl, hq⟩
  have hq1 := own_split hq
  have hx : Bel W8 W9 := Bel.trans (show Bel W8 _ from (by (try simp only [ext_ext]); repeat (first | exact Bel.refl _ | assumption | refine bel_and ?_ _ | refine bel_drews ?_ _ | refine Bel.ext ?_ _ | refine Bel.alloc ?_ _ | refine Bel.drewN ?_ _))) (bel_of hq1)
  have O6 := own_here hq
  clear hq hq1
  replace O2 := O2.bel hx
  replace O4 := O4.bel hx
  replace hb := hb.trans hx
  clear hx O5
  go_wp2_with (fail)
  refine (given03_any _).mono ?_
  rintro e W10 ⟨A7, c7, rfl, hq⟩
  have hq1 := own_split hq
  have hx : Bel W9 W10 := Bel.trans (show Bel W9 _ from (by (try simp only [ext_ext]); repeat (first | exact Bel.refl _ | assumption | refine bel_and ?_ _ | refine bel_drews ?_ _ | refine Bel.ext ?_ _ | refine Bel.alloc ?_ _ | refine Bel.drewN ?_ _))) (bel_of hq1)
  have O7 := own_here hq
  clear hq hq1
  replace O2 := O2.bel hx
  replace O4 := O4.bel hx
  replace O6 := O6.bel hx
  replace hb := hb.trans hx
  clear hx
  go_wp2_with (fail)
  refine (at03l_any 7 _).mono ?_
  rintro e W11 ⟨rfl, hq⟩
  have hq1 := hq
  have hx : Bel W10 W11 := Bel.trans (show Bel W10 _ from (by (try simp only [ext_ext]); repeat (first | exact Bel.refl _ | assumption | refine bel_and ?_ _ | refine bel_drews ?_ _ | refine Bel.ext ?_ _ | refine Bel.alloc ?_ _ | refine Bel.drewN ?_ _))) (bel_of hq1)
  clear hq hq1
  replace O2 := O2.bel hx
  replace O4 := O4.bel hx
  replace O6 := O6.bel hx
  replace O7 := O7.bel hx
  replace hb := hb.trans hx
  clear hx
  go_wp2_with (fail)
  refine (rank_lit A7 c7 givenF 5 7 1 1 0 given_rank7 _ (by decide) (by decide) (O7.sl.bel (by (try simp only [ext_ext]); repeat (first | exact Bel.refl _ | assumption | refine bel_and ?_ _ | refine bel_drews ?_ _ | refine Bel.ext ?_ _ | refine Bel.alloc ?_ _ | refine Bel.drewN ?_ _))) O7.nilc (by decide)).mono ?_
  rintro e W12 ⟨rfl, hq⟩
  have hq1 := hq
  have hx : Bel W11 W12 := Bel.trans (show Bel W11 _ from (by (try simp only [ext_ext]); repeat (first | exact Bel.refl _ | assumption | refine bel_and ?_ _ | refine bel_drews ?_ _ | refine Bel.ext ?_ _ | refine Bel.alloc ?_ _ | refine Bel.drewN ?_ _))) (bel_of hq1)
  clear hq hq1
  replace O2 := O2.bel hx
  replace O4 := O4.bel hx
  replace O6 := O6.bel hx
  replace hb := hb.trans hx
  clear hx O7
  go_wp2_with (fail)
  refine (sameIDs_lit A2 (some ⟨W12.heap.size, 0, none⟩) c2 3 ([2, 1, 5]) ([2, 1, 5]) true (decide_eq_true rfl) _ (O2.sl.bel (by (try simp only [ext_ext]); repeat (first | exact Bel.refl _ | assumption | refine bel_and ?_ _ | refine bel_drews ?_ _ | refine Bel.ext ?_ _ | refine Bel.alloc ?_ _ | refine Bel.drewN ?_ _))) (own_row (W := W12) (cs := #[.int .i64 2, .int .i64 1, .int .i64 5]) (e := 3) (size := 1) (n := 3) (b := W12.heap.size) (by (try simp only [ext_ext]); repeat (first | exact Bel.refl _ | assumption | refine bel_and ?_ _ | refine bel_drews ?_ _ | refine Bel.ext ?_ _ | refine Bel.alloc ?_ _ | refine Bel.drewN ?_ _)) (by rfl) (by decide) (by rfl)).sl (by decide) (by decide)).mono ?_
  rintro e W13 ⟨rfl, hq⟩
  have hq1 := hq
  have hx : Bel W12 W13 := Bel.trans (show Bel W12 _ from (by (try simp only [ext_ext]); repeat (first | exact Bel.refl _ | assumption | refine bel_and ?_ _ | refine bel_drews ?_ _ | refine Bel.ext ?_ _ | refine Bel.alloc ?_ _ | refine Bel.drewN ?_ _))) (bel_of hq1)
  have hxb : Bel (W12.alloc (.cells #[.int .i64 2, .int .i64 1, .int .i64 5] 3)) W13 := by obtain ⟨y, hy⟩ := hq1; rw [hy]; exact (by (try simp only [ext_ext]); repeat (first | exact Bel.refl _ | assumption | refine bel_and ?_ _ | refine bel_drews ?_ _ | refine Bel.ext ?_ _ | refine Bel.alloc ?_ _ | refine Bel.drewN ?_ _))
  clear hxb
  clear hq hq1
  replace O4 := O4.bel hx
  replace O6 := O6.bel hx
  replace hb := hb.trans hx
  clear hx O2
  go_wp2_with (fail)
  refine (sameIDs_lit A4 (some ⟨W13.heap.size, 0, none⟩) c4 3 ([1, 2, 5]) ([1, 2, 5]) true (decide_eq_true rfl) _ (O4.sl.bel (by (try simp only [ext_ext]); repeat (first | exact Bel.refl _ | assumption | refine bel_and ?_ _ | refine bel_drews ?_ _ | refine Bel.ext ?_ _ | refine Bel.alloc ?_ _ | refine Bel.drewN ?_ _))) (own_row (W := W13) (cs := #[.int .i64 1, .int .i64 2, .int .i64 5]) (e := 3) (size := 1) (n := 3) (b := W13.heap.size) (by (try simp only [ext_ext]); repeat (first | exact Bel.refl _ | assumption | refine bel_and ?_ _ | refine bel_drews ?_ _ | refine Bel.ext ?_ _ | refine Bel.alloc ?_ _ | refine Bel.drewN ?_ _)) (by rfl) (by decide) (by rfl)).sl (by decide) (by decide)).mono ?_
  rintro e W14 ⟨rfl, hq⟩
  have hq1 := hq
  have hx : Bel W13 W14 := Bel.trans (show Bel W13 _ from (by (try simp only [ext_ext]); repeat (first | exact Bel.refl _ | assumption | refine bel_and ?_ _ | refine bel_drews ?_ _ | refine Bel.ext ?_ _ | refine Bel.alloc ?_ _ | refine Bel.drewN ?_ _))) (bel_of hq1)
  have hxb : Bel (W13.alloc (.cells #[.int .i64 1, .int .i64 2, .int .i64 5] 3)) W14 := by obtain ⟨y, hy⟩ := hq1; rw [hy]; exact (by (try simp only [ext_ext]); repeat (first | exact Bel.refl _ | assumption | refine bel_and ?_ _ | refine bel_drews ?_ _ | refine Bel.ext ?_ _ | refine Bel.alloc ?_ _ | refine Bel.drewN ?_ _))
  clear hxb
  clear hq hq1
  replace O6 := O6.bel hx
  replace hb := hb.trans hx
  clear hx O4
  go_wp2_with (fail)
  refine (sameIDs_lit A6 (some ⟨W14.heap.size, 0, none⟩) c6 3 ([1, 5, 2]) ([1, 5, 2]) true (decide_eq_true rfl) _ (O6.sl.bel (by (try simp only [ext_ext]); repeat (first | exact Bel.refl _ | assumption | refine bel_and ?_ _ | refine bel_drews ?_ _ | refine Bel.ext ?_ _ | refine Bel.alloc ?_ _ | refine Bel.drewN ?_ _))) (own_row (W := W14) (cs := #[.int .i64 1, .int .i64 5, .int .i64 2]) (e := 3) (size := 1) (n := 3) (b := W14.heap.size) (by (try simp only [ext_ext]); repeat (first | exact Bel.refl _ | assumption | refine bel_and ?_ _ | refine bel_drews ?_ _ | refine Bel.ext ?_ _ | refine Bel.alloc ?_ _ | refine Bel.drewN ?_ _)) (by rfl) (by decide) (by rfl)).sl (by decide) (by decide)).mono ?_
  rintro e W15 ⟨rfl, hq⟩
  have hq1 := hq
  have hx : Bel W14 W15 := Bel.trans (show Bel W14 _ from (by (try simp only [ext_ext]); repeat (first | exact Bel.refl _ | assumption | refine bel_and ?_ _ | refine bel_drews ?_ _ | refine Bel.ext ?_ _ | refine Bel.alloc ?_ _ | refine Bel.drewN ?_ _))) (bel_of hq1)
  have hxb : Bel (W14.alloc (.cells #[.int .i64 1, .int .i64 5, .int .i64 2] 3)) W15 := by obtain ⟨y, hy⟩ := hq1; rw [hy]; exact (by (try simp only [ext_ext]); repeat (first | exact Bel.refl _ | assumption | refine bel_and ?_ _ | refine bel_drews ?_ _ | refine Bel.ext ?_ _ | refine Bel.alloc ?_ _ | refine Bel.drewN ?_ _))
  have R10 : Own W15 (W14.heap.size) 3 1 (some ⟨W14.heap.size, 0, none⟩) 3 3 [.int .i64 1, .int .i64 5, .int .i64 2] := own_row (W := W14) (Bel.trans (by (try simp only [ext_ext]); repeat (first | exact Bel.refl _ | assumption | refine bel_and ?_ _ | refine bel_drews ?_ _ | refine Bel.ext ?_ _ | refine Bel.alloc ?_ _ | refine Bel.drewN ?_ _)) hxb) (by rfl) (by decide) (by rfl)
  clear hxb
  clear hq hq1
  replace hb := hb.trans hx
  clear hx O6
  go_wp2
  (go_ret; exact ⟨ret_bool (by rfl), ext_of (by (try simp only [ext_ext]); repeat (first | exact Bel.refl _ | assumption | refine bel_and ?_ _ | refine bel_drews ?_ _ | refine Bel.ext ?_ _ | refine Bel.alloc ?_ _ | refine Bel.drewN ?_ _))⟩)
end Go.Proofs.Ytkcpnclgcmnlcaa
