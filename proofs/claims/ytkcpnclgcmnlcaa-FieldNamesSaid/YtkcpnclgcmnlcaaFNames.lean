/- The chapter's examples, limits and errors: the statement FieldNames. (Printed by genfnames.py.) -/
import Derived.Test.YtkcpnclgcmnlcaaFAl
import Derived.Test.YtkcpnclgcmnlcaaFFull
import Derived.Test.YtkcpnclgcmnlcaaFOwn
import Derived.Test.YtkcpnclgcmnlcaaArgsF
set_option linter.unusedSimpArgs false
set_option linter.unusedVariables false
namespace Go.Proofs.Ytkcpnclgcmnlcaa
open Go.ChangeShapes Go.WideShapes Go.ChangeAt Go.RowKit Go.Pel
set_option maxRecDepth 10000 in
set_option maxHeartbeats 16000000 in
theorem fnames_walk (w : World) : Calls Try.prog 14 #[] w fun e w' => e = .returned (.bool true) ∧ ∃ x, w' = ext w x := by
  obtain ⟨L64, hL⟩ : ∃ L, (fullL 64).map Pt.id = L := ⟨_, rfl⟩
  have HO : Hid (fieldOrder (fullL 64) 0 1 = (L64, 0)) := Lib.hid (by rw [full_order, hL])
  have HLL : Hid (L64.length = 64) := Lib.hid (by rw [← hL, List.length_map, full_len])
  have HL0 : Hid (L64[0]? = some 0) := Lib.hid (by rw [← hL]; decide +kernel)
  clear hL
  go_enter Try.func14, Try.ntmps14
  go_wp2_with (fail)
  refine (full_any 65 _ (by decide)).mono ?_
  rintro e W1 ⟨A1, c1, rfl, hq⟩
  have hq1 := own_split hq
  have hx : Bel w W1 := Bel.trans (show Bel w _ from (by (try simp only [ext_ext]); repeat (first | exact Bel.refl _ | assumption | refine bel_and ?_ _ | refine bel_drews ?_ _ | refine Bel.ext ?_ _ | refine Bel.alloc ?_ _ | refine Bel.drewN ?_ _))) (bel_of hq1)
  have O1 := own_here hq
  clear hq hq1
  have hb := hx
  clear hx
  go_wp2
  refine wp_loop_rounds 6 ?_
  rw [rounds_succ]
  go_wp2_with (fail)
  refine (find_lit A1 c1 (fullL 65) 2 Pt.zero 4 (bad_find full65 (by decide) 2) _ (O1.sl.bel (by (try simp only [ext_ext]); repeat (first | exact Bel.refl _ | assumption | refine bel_and ?_ _ | refine bel_drews ?_ _ | refine Bel.ext ?_ _ | refine Bel.alloc ?_ _ | refine Bel.drewN ?_ _)))).mono ?_
  rintro e W2 ⟨rfl, hq⟩
  have hq1 := hq
  have hx : Bel W1 W2 := Bel.trans (show Bel W1 _ from (by (try simp only [ext_ext]); repeat (first | exact Bel.refl _ | assumption | refine bel_and ?_ _ | refine bel_drews ?_ _ | refine Bel.ext ?_ _ | refine Bel.alloc ?_ _ | refine Bel.drewN ?_ _))) (bel_of hq1)
  have hxb : Bel ((((((W1.alloc (.cells #[.int .i64 (-1), .int .i64 0, .int .i64 0] 26)).alloc (.cells #[.int .i64 2, .int .i64 0, .int .i64 0, .int .i64 2, .int .i64 0, .int .i64 0] 26)).alloc (.cells #[.int .i64 2, .int .i64 0, .int .i64 0, .int .i64 1, .int .i64 0, .int .i64 0] 26)).alloc (.cells #[.int .i64 9, .int .i64 0, .int .i64 0, .int .i64 8, .int .i64 1048577, .int .i64 0] 26)).alloc (.cells #[.slice A1 ((fullL 65).length) c1, .slice (some ⟨W1.heap.size, 0, none⟩) 1 1, .slice (some ⟨W1.heap.size + 1, 0, none⟩) 2 2, .slice (some ⟨W1.heap.size + 2, 0, none⟩) 2 2, .slice (some ⟨W1.heap.size + 3, 0, none⟩) 2 2] 24)).alloc (.cells #[.int .i64 4, .int .i64 8, .int .i64 32, .int .i64 32, .int .i64 8] 29)) W2 := by obtain ⟨y, hy⟩ := hq1; rw [hy]; exact (by (try simp only [ext_ext]); repeat (first | exact Bel.refl _ | assumption | refine bel_and ?_ _ | refine bel_drews ?_ _ | refine Bel.ext ?_ _ | refine Bel.alloc ?_ _ | refine Bel.drewN ?_ _))
  have R2 : Own W2 (W1.heap.size) 26 3 (some ⟨W1.heap.size, 0, none⟩) 1 1 [.int .i64 (-1), .int .i64 0, .int .i64 0] := own_row (W := W1) (Bel.trans (by (try simp only [ext_ext]); repeat (first | exact Bel.refl _ | assumption | refine bel_and ?_ _ | refine bel_drews ?_ _ | refine Bel.ext ?_ _ | refine Bel.alloc ?_ _ | refine Bel.drewN ?_ _)) hxb) (by rfl) (by decide) (by rfl)
  have R3 : Own W2 (W1.heap.size + 1) 26 3 (some ⟨W1.heap.size + 1, 0, none⟩) 2 2 [.int .i64 2, .int .i64 0, .int .i64 0, .int .i64 2, .int .i64 0, .int .i64 0] := own_row (W := (W1.alloc (.cells #[.int .i64 (-1), .int .i64 0, .int .i64 0] 26))) (Bel.trans (by (try simp only [ext_ext]); repeat (first | exact Bel.refl _ | assumption | refine bel_and ?_ _ | refine bel_drews ?_ _ | refine Bel.ext ?_ _ | refine Bel.alloc ?_ _ | refine Bel.drewN ?_ _)) hxb) (by simp) (by decide) (by rfl)
  have R4 : Own W2 (W1.heap.size + 2) 26 3 (some ⟨W1.heap.size + 2, 0, none⟩) 2 2 [.int .i64 2, .int .i64 0, .int .i64 0, .int .i64 1, .int .i64 0, .int .i64 0] := own_row (W := ((W1.alloc (.cells #[.int .i64 (-1), .int .i64 0, .int .i64 0] 26)).alloc (.cells #[.int .i64 2, .int .i64 0, .int .i64 0, .int .i64 2, .int .i64 0, .int .i64 0] 26))) (Bel.trans (by (try simp only [ext_ext]); repeat (first | exact Bel.refl _ | assumption | refine bel_and ?_ _ | refine bel_drews ?_ _ | refine Bel.ext ?_ _ | refine Bel.alloc ?_ _ | refine Bel.drewN ?_ _)) hxb) (by simp) (by decide) (by rfl)
  have R5 : Own W2 (W1.heap.size + 3) 26 3 (some ⟨W1.heap.size + 3, 0, none⟩) 2 2 [.int .i64 9, .int .i64 0, .int .i64 0, .int .i64 8, .int .i64 1048577, .int .i64 0] := own_row (W := (((W1.alloc (.cells #[.int .i64 (-1), .int .i64 0, .int .i64 0] 26)).alloc (.cells #[.int .i64 2, .int .i64 0, .int .i64 0, .int .i64 2, .int .i64 0, .int .i64 0] 26)).alloc (.cells #[.int .i64 2, .int .i64 0, .int .i64 0, .int .i64 1, .int .i64 0, .int .i64 0] 26))) (Bel.trans (by (try simp only [ext_ext]); repeat (first | exact Bel.refl _ | assumption | refine bel_and ?_ _ | refine bel_drews ?_ _ | refine Bel.ext ?_ _ | refine Bel.alloc ?_ _ | refine Bel.drewN ?_ _)) hxb) (by simp) (by decide) (by rfl)
  have R6 : Own W2 (W1.heap.size + 4) 24 1 (some ⟨W1.heap.size + 4, 0, none⟩) 5 5 [.slice A1 ((fullL 65).length) c1, .slice (some ⟨W1.heap.size, 0, none⟩) 1 1, .slice (some ⟨W1.heap.size + 1, 0, none⟩) 2 2, .slice (some ⟨W1.heap.size + 2, 0, none⟩) 2 2, .slice (some ⟨W1.heap.size + 3, 0, none⟩) 2 2] := own_row (W := ((((W1.alloc (.cells #[.int .i64 (-1), .int .i64 0, .int .i64 0] 26)).alloc (.cells #[.int .i64 2, .int .i64 0, .int .i64 0, .int .i64 2, .int .i64 0, .int .i64 0] 26)).alloc (.cells #[.int .i64 2, .int .i64 0, .int .i64 0, .int .i64 1, .int .i64 0, .int .i64 0] 26)).alloc (.cells #[.int .i64 9, .int .i64 0, .int .i64 0, .int .i64 8, .int .i64 1048577, .int .i64 0] 26))) (Bel.trans (by (try simp only [ext_ext]); repeat (first | exact Bel.refl _ | assumption | refine bel_and ?_ _ | refine bel_drews ?_ _ | refine Bel.ext ?_ _ | refine Bel.alloc ?_ _ | refine Bel.drewN ?_ _)) hxb) (by simp) (by decide) (by rfl)
  have R7 : Own W2 (W1.heap.size + 5) 29 1 (some ⟨W1.heap.size + 5, 0, none⟩) 5 5 [.int .i64 4, .int .i64 8, .int .i64 32, .int .i64 32, .int .i64 8] := own_row (W := (((((W1.alloc (.cells #[.int .i64 (-1), .int .i64 0, .int .i64 0] 26)).alloc (.cells #[.int .i64 2, .int .i64 0, .int .i64 0, .int .i64 2, .int .i64 0, .int .i64 0] 26)).alloc (.cells #[.int .i64 2, .int .i64 0, .int .i64 0, .int .i64 1, .int .i64 0, .int .i64 0] 26)).alloc (.cells #[.int .i64 9, .int .i64 0, .int .i64 0, .int .i64 8, .int .i64 1048577, .int .i64 0] 26)).alloc (.cells #[.slice A1 ((fullL 65).length) c1, .slice (some ⟨W1.heap.size, 0, none⟩) 1 1, .slice (some ⟨W1.heap.size + 1, 0, none⟩) 2 2, .slice (some ⟨W1.heap.size + 2, 0, none⟩) 2 2, .slice (some ⟨W1.heap.size + 3, 0, none⟩) 2 2] 24))) (Bel.trans (by (try simp only [ext_ext]); repeat (first | exact Bel.refl _ | assumption | refine bel_and ?_ _ | refine bel_drews ?_ _ | refine Bel.ext ?_ _ | refine Bel.alloc ?_ _ | refine Bel.drewN ?_ _)) hxb) (by simp) (by decide) (by rfl)
  clear hxb
  clear hq hq1
  replace O1 := O1.bel hx
  replace hb := hb.trans hx
  clear hx
  have xlR6 := R6.ats.2
  have xeR6_0 := own_cell R6 (j := 0) (u := .slice A1 ((fullL 65).length) c1) rfl
  go_wp2_with (fail)
  refine (put_lit A1 c1 (fullL 65) ⟨-1, 0, 0⟩ ([]) 4 (bad_put full65 (by decide) ⟨-1, 0, 0⟩) _ (O1.sl.bel (by (try simp only [ext_ext]); repeat (first | exact Bel.refl _ | assumption | refine bel_and ?_ _ | refine bel_drews ?_ _ | refine Bel.ext ?_ _ | refine Bel.alloc ?_ _ | refine Bel.drewN ?_ _))) O1.nilc).mono ?_
  rintro e W3 ⟨A9, c9, rfl, hq⟩
  have hq1 := own_split hq
  have hx : Bel W2 W3 := Bel.trans (show Bel W2 _ from (by (try simp only [ext_ext]); repeat (first | exact Bel.refl _ | assumption | refine bel_and ?_ _ | refine bel_drews ?_ _ | refine Bel.ext ?_ _ | refine Bel.alloc ?_ _ | refine Bel.drewN ?_ _))) (bel_of hq1)
  have hxb : Bel (W2.alloc (.cells #[.int .i64 Pt.zero.id, .int .i64 Pt.zero.a, .int .i64 Pt.zero.b] 26)) W3 := by obtain ⟨y, hy⟩ := hq1; rw [hy]; exact (by (try simp only [ext_ext]); repeat (first | exact Bel.refl _ | assumption | refine bel_and ?_ _ | refine bel_drews ?_ _ | refine Bel.ext ?_ _ | refine Bel.alloc ?_ _ | refine Bel.drewN ?_ _))
  clear hxb
  clear hq hq1
  replace O1 := O1.bel hx
  replace R2 := R2.bel hx
  replace R3 := R3.bel hx
  replace R4 := R4.bel hx
  replace R5 := R5.bel hx
  replace R6 := R6.bel hx
  replace R7 := R7.bel hx
  replace hb := hb.trans hx
  clear hx xlR6 xeR6_0
  have xlR6 := R6.ats.2
  have xeR6_0 := own_cell R6 (j := 0) (u := .slice A1 ((fullL 65).length) c1) rfl
  go_wp2_with (fail)
  refine (take_lit A1 c1 (fullL 65) 2 ([]) 4 (bad_take full65 (by decide) 2) _ (O1.sl.bel (by (try simp only [ext_ext]); repeat (first | exact Bel.refl _ | assumption | refine bel_and ?_ _ | refine bel_drews ?_ _ | refine Bel.ext ?_ _ | refine Bel.alloc ?_ _ | refine Bel.drewN ?_ _))) O1.nilc).mono ?_
  rintro e W4 ⟨A11, c11, rfl, hq⟩
  have hq1 := own_split hq
  have hx : Bel W3 W4 := Bel.trans (show Bel W3 _ from (by (try simp only [ext_ext]); repeat (first | exact Bel.refl _ | assumption | refine bel_and ?_ _ | refine bel_drews ?_ _ | refine Bel.ext ?_ _ | refine Bel.alloc ?_ _ | refine Bel.drewN ?_ _))) (bel_of hq1)
  have hxb : Bel (W3.alloc (.cells #[.slice A9 0 c9] 24)) W4 := by obtain ⟨y, hy⟩ := hq1; rw [hy]; exact (by (try simp only [ext_ext]); repeat (first | exact Bel.refl _ | assumption | refine bel_and ?_ _ | refine bel_drews ?_ _ | refine Bel.ext ?_ _ | refine Bel.alloc ?_ _ | refine Bel.drewN ?_ _))
  clear hxb
  clear hq hq1
  replace O1 := O1.bel hx
  replace R2 := R2.bel hx
  replace R3 := R3.bel hx
  replace R4 := R4.bel hx
  replace R5 := R5.bel hx
  replace R6 := R6.bel hx
  replace R7 := R7.bel hx
  replace hb := hb.trans hx
  clear hx xlR6 xeR6_0
  have xlR6 := R6.ats.2
  have xeR6_0 := own_cell R6 (j := 0) (u := .slice A1 ((fullL 65).length) c1) rfl
  go_wp2_with (fail)
  refine (change_lit A1 c1 (fullL 65) ⟨-1, 0, 0⟩ ([]) 4 (bad_change full65 (by decide) ⟨-1, 0, 0⟩) _ (O1.sl.bel (by (try simp only [ext_ext]); repeat (first | exact Bel.refl _ | assumption | refine bel_and ?_ _ | refine bel_drews ?_ _ | refine Bel.ext ?_ _ | refine Bel.alloc ?_ _ | refine Bel.drewN ?_ _))) O1.nilc).mono ?_
  rintro e W5 ⟨A13, c13, rfl, hq⟩
  have hq1 := own_split hq
  have hx : Bel W4 W5 := Bel.trans (show Bel W4 _ from (by (try simp only [ext_ext]); repeat (first | exact Bel.refl _ | assumption | refine bel_and ?_ _ | refine bel_drews ?_ _ | refine Bel.ext ?_ _ | refine Bel.alloc ?_ _ | refine Bel.drewN ?_ _))) (bel_of hq1)
  have hxb : Bel (W4.alloc (.cells #[.slice A11 0 c11] 24)) W5 := by obtain ⟨y, hy⟩ := hq1; rw [hy]; exact (by (try simp only [ext_ext]); repeat (first | exact Bel.refl _ | assumption | refine bel_and ?_ _ | refine bel_drews ?_ _ | refine Bel.ext ?_ _ | refine Bel.alloc ?_ _ | refine Bel.drewN ?_ _))
  clear hxb
  clear hq hq1
  replace O1 := O1.bel hx
  replace R2 := R2.bel hx
  replace R3 := R3.bel hx
  replace R4 := R4.bel hx
  replace R5 := R5.bel hx
  replace R6 := R6.bel hx
  replace R7 := R7.bel hx
  replace hb := hb.trans hx
  clear hx xlR6 xeR6_0
  have xlR6 := R6.ats.2
  have xeR6_0 := own_cell R6 (j := 0) (u := .slice A1 ((fullL 65).length) c1) rfl
  go_wp2_with (fail)
  refine (leader_lit A1 c1 (fullL 65) 0 0 0 4 (bad_leader full65 (by decide) 0 0) _ (by decide) (by decide) (O1.sl.bel (by (try simp only [ext_ext]); repeat (first | exact Bel.refl _ | assumption | refine bel_and ?_ _ | refine bel_drews ?_ _ | refine Bel.ext ?_ _ | refine Bel.alloc ?_ _ | refine Bel.drewN ?_ _))) O1.nilc).mono ?_
  rintro e W6 ⟨rfl, hq⟩
  have hq1 := hq
  have hx : Bel W5 W6 := Bel.trans (show Bel W5 _ from (by (try simp only [ext_ext]); repeat (first | exact Bel.refl _ | assumption | refine bel_and ?_ _ | refine bel_drews ?_ _ | refine Bel.ext ?_ _ | refine Bel.alloc ?_ _ | refine Bel.drewN ?_ _))) (bel_of hq1)
  have hxb : Bel (W5.alloc (.cells #[.slice A13 0 c13] 24)) W6 := by obtain ⟨y, hy⟩ := hq1; rw [hy]; exact (by (try simp only [ext_ext]); repeat (first | exact Bel.refl _ | assumption | refine bel_and ?_ _ | refine bel_drews ?_ _ | refine Bel.ext ?_ _ | refine Bel.alloc ?_ _ | refine Bel.drewN ?_ _))
  clear hxb
  clear hq hq1
  replace O1 := O1.bel hx
  replace R2 := R2.bel hx
  replace R3 := R3.bel hx
  replace R4 := R4.bel hx
  replace R5 := R5.bel hx
  replace R6 := R6.bel hx
  replace R7 := R7.bel hx
  replace hb := hb.trans hx
  clear hx xlR6 xeR6_0
  have xlR6 := R6.ats.2
  have xeR6_0 := own_cell R6 (j := 0) (u := .slice A1 ((fullL 65).length) c1) rfl
  go_wp2_with (fail)
  refine (order_lit A1 c1 (fullL 65) 0 0 ([]) 4 (bad_order full65 (by decide) 0 0) _ (by decide) (by decide) (O1.sl.bel (by (try simp only [ext_ext]); repeat (first | exact Bel.refl _ | assumption | refine bel_and ?_ _ | refine bel_drews ?_ _ | refine Bel.ext ?_ _ | refine Bel.alloc ?_ _ | refine Bel.drewN ?_ _))) O1.nilc (by rw [full_len]; decide)).mono ?_
  rintro e W7 ⟨A15, c15, rfl, hq⟩
  have hq1 := own_split hq
  have hx : Bel W6 W7 := Bel.trans (show Bel W6 _ from (by (try simp only [ext_ext]); repeat (first | exact Bel.refl _ | assumption | refine bel_and ?_ _ | refine bel_drews ?_ _ | refine Bel.ext ?_ _ | refine Bel.alloc ?_ _ | refine Bel.drewN ?_ _))) (bel_of hq1)
  clear hq hq1
  replace O1 := O1.bel hx
  replace R2 := R2.bel hx
  replace R3 := R3.bel hx
  replace R4 := R4.bel hx
  replace R5 := R5.bel hx
  replace R6 := R6.bel hx
  replace R7 := R7.bel hx
  replace hb := hb.trans hx
  clear hx xlR6 xeR6_0
  have xlR6 := R6.ats.2
  have xeR6_0 := own_cell R6 (j := 0) (u := .slice A1 ((fullL 65).length) c1) rfl
  go_wp2_with (fail)
  refine (rank_lit A1 c1 (fullL 65) 2 0 0 0 4 (bad_rank full65 (by decide) 2 0 0) _ (by decide) (by decide) (O1.sl.bel (by (try simp only [ext_ext]); repeat (first | exact Bel.refl _ | assumption | refine bel_and ?_ _ | refine bel_drews ?_ _ | refine Bel.ext ?_ _ | refine Bel.alloc ?_ _ | refine Bel.drewN ?_ _))) O1.nilc (by rw [full_len]; decide)).mono ?_
  rintro e W8 ⟨rfl, hq⟩
  have hq1 := hq
  have hx : Bel W7 W8 := Bel.trans (show Bel W7 _ from (by (try simp only [ext_ext]); repeat (first | exact Bel.refl _ | assumption | refine bel_and ?_ _ | refine bel_drews ?_ _ | refine Bel.ext ?_ _ | refine Bel.alloc ?_ _ | refine Bel.drewN ?_ _))) (bel_of hq1)
  clear hq hq1
  replace O1 := O1.bel hx
  replace R2 := R2.bel hx
  replace R3 := R3.bel hx
  replace R4 := R4.bel hx
  replace R5 := R5.bel hx
  replace R6 := R6.bel hx
  replace R7 := R7.bel hx
  replace hb := hb.trans hx
  clear hx xlR6 xeR6_0
  have xlR6 := R6.ats.2
  have xeR6_0 := own_cell R6 (j := 0) (u := .slice A1 ((fullL 65).length) c1) rfl
  go_wp2_with (fail)
  refine (fcheck_lit A1 c1 (fullL 65) 4 full65 _ (O1.sl.bel (by (try simp only [ext_ext]); repeat (first | exact Bel.refl _ | assumption | refine bel_and ?_ _ | refine bel_drews ?_ _ | refine Bel.ext ?_ _ | refine Bel.alloc ?_ _ | refine Bel.drewN ?_ _)))).mono ?_
  rintro e W9 ⟨rfl, hq⟩
  have hq1 := hq
  have hx : Bel W8 W9 := Bel.trans (show Bel W8 _ from (by (try simp only [ext_ext]); repeat (first | exact Bel.refl _ | assumption | refine bel_and ?_ _ | refine bel_drews ?_ _ | refine Bel.ext ?_ _ | refine Bel.alloc ?_ _ | refine Bel.drewN ?_ _))) (bel_of hq1)
  clear hq hq1
  replace R2 := R2.bel hx
  replace R3 := R3.bel hx
  replace R4 := R4.bel hx
  replace R5 := R5.bel hx
  replace R6 := R6.bel hx
  replace R7 := R7.bel hx
  replace hb := hb.trans hx
  clear hx xlR6 xeR6_0 O1
  go_wp2
  rw [rounds_succ]
  have xlR7 := R7.ats.2
  have xeR7_1 := own_cell R7 (j := 1) (u := .int .i64 8) rfl
  have xlR6 := R6.ats.2
  have xeR6_1 := own_cell R6 (j := 1) (u := .slice (some ⟨W1.heap.size, 0, none⟩) 1 1) rfl
  go_wp2_with (fail)
  refine (find_lit (some ⟨W1.heap.size, 0, none⟩) 1 ([⟨-1, 0, 0⟩]) 2 Pt.zero 8 (bad_find (show fieldChk [⟨-1, 0, 0⟩] = 8 by decide) (by decide) 2) _ (R2.sl.bel (by (try simp only [ext_ext]); repeat (first | exact Bel.refl _ | assumption | refine bel_and ?_ _ | refine bel_drews ?_ _ | refine Bel.ext ?_ _ | refine Bel.alloc ?_ _ | refine Bel.drewN ?_ _)))).mono ?_
  rintro e W10 ⟨rfl, hq⟩
  have hq1 := hq
  have hx : Bel W9 W10 := Bel.trans (show Bel W9 _ from (by (try simp only [ext_ext]); repeat (first | exact Bel.refl _ | assumption | refine bel_and ?_ _ | refine bel_drews ?_ _ | refine Bel.ext ?_ _ | refine Bel.alloc ?_ _ | refine Bel.drewN ?_ _))) (bel_of hq1)
  clear hq hq1
  replace R2 := R2.bel hx
  replace R3 := R3.bel hx
  replace R4 := R4.bel hx
  replace R5 := R5.bel hx
  replace R6 := R6.bel hx
  replace R7 := R7.bel hx
  replace hb := hb.trans hx
  clear hx xlR7 xeR7_1 xlR6 xeR6_1
  have xlR6 := R6.ats.2
  have xeR6_1 := own_cell R6 (j := 1) (u := .slice (some ⟨W1.heap.size, 0, none⟩) 1 1) rfl
  go_wp2_with (fail)
  refine (put_lit (some ⟨W1.heap.size, 0, none⟩) 1 ([⟨-1, 0, 0⟩]) ⟨-1, 0, 0⟩ ([]) 8 (bad_put (show fieldChk [⟨-1, 0, 0⟩] = 8 by decide) (by decide) ⟨-1, 0, 0⟩) _ (R2.sl.bel (by (try simp only [ext_ext]); repeat (first | exact Bel.refl _ | assumption | refine bel_and ?_ _ | refine bel_drews ?_ _ | refine Bel.ext ?_ _ | refine Bel.alloc ?_ _ | refine Bel.drewN ?_ _))) (fun h => by cases h)).mono ?_
  rintro e W11 ⟨A17, c17, rfl, hq⟩
  have hq1 := own_split hq
  have hx : Bel W10 W11 := Bel.trans (show Bel W10 _ from (by (try simp only [ext_ext]); repeat (first | exact Bel.refl _ | assumption | refine bel_and ?_ _ | refine bel_drews ?_ _ | refine Bel.ext ?_ _ | refine Bel.alloc ?_ _ | refine Bel.drewN ?_ _))) (bel_of hq1)
  have hxb : Bel (W10.alloc (.cells #[.int .i64 Pt.zero.id, .int .i64 Pt.zero.a, .int .i64 Pt.zero.b] 26)) W11 := by obtain ⟨y, hy⟩ := hq1; rw [hy]; exact (by (try simp only [ext_ext]); repeat (first | exact Bel.refl _ | assumption | refine bel_and ?_ _ | refine bel_drews ?_ _ | refine Bel.ext ?_ _ | refine Bel.alloc ?_ _ | refine Bel.drewN ?_ _))
  clear hxb
  clear hq hq1
  replace R2 := R2.bel hx
  replace R3 := R3.bel hx
  replace R4 := R4.bel hx
  replace R5 := R5.bel hx
  replace R6 := R6.bel hx
  replace R7 := R7.bel hx
  replace hb := hb.trans hx
  clear hx xlR6 xeR6_1
  have xlR6 := R6.ats.2
  have xeR6_1 := own_cell R6 (j := 1) (u := .slice (some ⟨W1.heap.size, 0, none⟩) 1 1) rfl
  go_wp2_with (fail)
  refine (take_lit (some ⟨W1.heap.size, 0, none⟩) 1 ([⟨-1, 0, 0⟩]) 2 ([]) 8 (bad_take (show fieldChk [⟨-1, 0, 0⟩] = 8 by decide) (by decide) 2) _ (R2.sl.bel (by (try simp only [ext_ext]); repeat (first | exact Bel.refl _ | assumption | refine bel_and ?_ _ | refine bel_drews ?_ _ | refine Bel.ext ?_ _ | refine Bel.alloc ?_ _ | refine Bel.drewN ?_ _))) (fun h => by cases h)).mono ?_
  rintro e W12 ⟨A19, c19, rfl, hq⟩
  have hq1 := own_split hq
  have hx : Bel W11 W12 := Bel.trans (show Bel W11 _ from (by (try simp only [ext_ext]); repeat (first | exact Bel.refl _ | assumption | refine bel_and ?_ _ | refine bel_drews ?_ _ | refine Bel.ext ?_ _ | refine Bel.alloc ?_ _ | refine Bel.drewN ?_ _))) (bel_of hq1)
  have hxb : Bel (W11.alloc (.cells #[.slice A17 0 c17] 24)) W12 := by obtain ⟨y, hy⟩ := hq1; rw [hy]; exact (by (try simp only [ext_ext]); repeat (first | exact Bel.refl _ | assumption | refine bel_and ?_ _ | refine bel_drews ?_ _ | refine Bel.ext ?_ _ | refine Bel.alloc ?_ _ | refine Bel.drewN ?_ _))
  clear hxb
  clear hq hq1
  replace R2 := R2.bel hx
  replace R3 := R3.bel hx
  replace R4 := R4.bel hx
  replace R5 := R5.bel hx
  replace R6 := R6.bel hx
  replace R7 := R7.bel hx
  replace hb := hb.trans hx
  clear hx xlR6 xeR6_1
  have xlR6 := R6.ats.2
  have xeR6_1 := own_cell R6 (j := 1) (u := .slice (some ⟨W1.heap.size, 0, none⟩) 1 1) rfl
  go_wp2_with (fail)
  refine (change_lit (some ⟨W1.heap.size, 0, none⟩) 1 ([⟨-1, 0, 0⟩]) ⟨-1, 0, 0⟩ ([]) 8 (bad_change (show fieldChk [⟨-1, 0, 0⟩] = 8 by decide) (by decide) ⟨-1, 0, 0⟩) _ (R2.sl.bel (by (try simp only [ext_ext]); repeat (first | exact Bel.refl _ | assumption | refine bel_and ?_ _ | refine bel_drews ?_ _ | refine Bel.ext ?_ _ | refine Bel.alloc ?_ _ | refine Bel.drewN ?_ _))) (fun h => by cases h)).mono ?_
  rintro e W13 ⟨A21, c21, rfl, hq⟩
  have hq1 := own_split hq
  have hx : Bel W12 W13 := Bel.trans (show Bel W12 _ from (by (try simp only [ext_ext]); repeat (first | exact Bel.refl _ | assumption | refine bel_and ?_ _ | refine bel_drews ?_ _ | refine Bel.ext ?_ _ | refine Bel.alloc ?_ _ | refine Bel.drewN ?_ _))) (bel_of hq1)
  have hxb : Bel (W12.alloc (.cells #[.slice A19 0 c19] 24)) W13 := by obtain ⟨y, hy⟩ := hq1; rw [hy]; exact (by (try simp only [ext_ext]); repeat (first | exact Bel.refl _ | assumption | refine bel_and ?_ _ | refine bel_drews ?_ _ | refine Bel.ext ?_ _ | refine Bel.alloc ?_ _ | refine Bel.drewN ?_ _))
  clear hxb
  clear hq hq1
  replace R2 := R2.bel hx
  replace R3 := R3.bel hx
  replace R4 := R4.bel hx
  replace R5 := R5.bel hx
  replace R6 := R6.bel hx
  replace R7 := R7.bel hx
  replace hb := hb.trans hx
  clear hx xlR6 xeR6_1
  have xlR6 := R6.ats.2
  have xeR6_1 := own_cell R6 (j := 1) (u := .slice (some ⟨W1.heap.size, 0, none⟩) 1 1) rfl
  go_wp2_with (fail)
  refine (leader_lit (some ⟨W1.heap.size, 0, none⟩) 1 ([⟨-1, 0, 0⟩]) 0 0 0 8 (bad_leader (show fieldChk [⟨-1, 0, 0⟩] = 8 by decide) (by decide) 0 0) _ (by decide) (by decide) (R2.sl.bel (by (try simp only [ext_ext]); repeat (first | exact Bel.refl _ | assumption | refine bel_and ?_ _ | refine bel_drews ?_ _ | refine Bel.ext ?_ _ | refine Bel.alloc ?_ _ | refine Bel.drewN ?_ _))) (fun h => by cases h)).mono ?_
  rintro e W14 ⟨rfl, hq⟩
  have hq1 := hq
  have hx : Bel W13 W14 := Bel.trans (show Bel W13 _ from (by (try simp only [ext_ext]); repeat (first | exact Bel.refl _ | assumption | refine bel_and ?_ _ | refine bel_drews ?_ _ | refine Bel.ext ?_ _ | refine Bel.alloc ?_ _ | refine Bel.drewN ?_ _))) (bel_of hq1)
  have hxb : Bel (W13.alloc (.cells #[.slice A21 0 c21] 24)) W14 := by obtain ⟨y, hy⟩ := hq1; rw [hy]; exact (by (try simp only [ext_ext]); repeat (first | exact Bel.refl _ | assumption | refine bel_and ?_ _ | refine bel_drews ?_ _ | refine Bel.ext ?_ _ | refine Bel.alloc ?_ _ | refine Bel.drewN ?_ _))
  clear hxb
  clear hq hq1
  replace R2 := R2.bel hx
  replace R3 := R3.bel hx
  replace R4 := R4.bel hx
  replace R5 := R5.bel hx
  replace R6 := R6.bel hx
  replace R7 := R7.bel hx
  replace hb := hb.trans hx
  clear hx xlR6 xeR6_1
  have xlR6 := R6.ats.2
  have xeR6_1 := own_cell R6 (j := 1) (u := .slice (some ⟨W1.heap.size, 0, none⟩) 1 1) rfl
  go_wp2_with (fail)
  refine (order_lit (some ⟨W1.heap.size, 0, none⟩) 1 ([⟨-1, 0, 0⟩]) 0 0 ([]) 8 (bad_order (show fieldChk [⟨-1, 0, 0⟩] = 8 by decide) (by decide) 0 0) _ (by decide) (by decide) (R2.sl.bel (by (try simp only [ext_ext]); repeat (first | exact Bel.refl _ | assumption | refine bel_and ?_ _ | refine bel_drews ?_ _ | refine Bel.ext ?_ _ | refine Bel.alloc ?_ _ | refine Bel.drewN ?_ _))) (fun h => by cases h) (by decide)).mono ?_
  rintro e W15 ⟨A23, c23, rfl, hq⟩
  have hq1 := own_split hq
  have hx : Bel W14 W15 := Bel.trans (show Bel W14 _ from (by (try simp only [ext_ext]); repeat (first | exact Bel.refl _ | assumption | refine bel_and ?_ _ | refine bel_drews ?_ _ | refine Bel.ext ?_ _ | refine Bel.alloc ?_ _ | refine Bel.drewN ?_ _))) (bel_of hq1)
  clear hq hq1
  replace R2 := R2.bel hx
  replace R3 := R3.bel hx
  replace R4 := R4.bel hx
  replace R5 := R5.bel hx
  replace R6 := R6.bel hx
  replace R7 := R7.bel hx
  replace hb := hb.trans hx
  clear hx xlR6 xeR6_1
  have xlR6 := R6.ats.2
  have xeR6_1 := own_cell R6 (j := 1) (u := .slice (some ⟨W1.heap.size, 0, none⟩) 1 1) rfl
  go_wp2_with (fail)
  refine (rank_lit (some ⟨W1.heap.size, 0, none⟩) 1 ([⟨-1, 0, 0⟩]) 2 0 0 0 8 (bad_rank (show fieldChk [⟨-1, 0, 0⟩] = 8 by decide) (by decide) 2 0 0) _ (by decide) (by decide) (R2.sl.bel (by (try simp only [ext_ext]); repeat (first | exact Bel.refl _ | assumption | refine bel_and ?_ _ | refine bel_drews ?_ _ | refine Bel.ext ?_ _ | refine Bel.alloc ?_ _ | refine Bel.drewN ?_ _))) (fun h => by cases h) (by decide)).mono ?_
  rintro e W16 ⟨rfl, hq⟩
  have hq1 := hq
  have hx : Bel W15 W16 := Bel.trans (show Bel W15 _ from (by (try simp only [ext_ext]); repeat (first | exact Bel.refl _ | assumption | refine bel_and ?_ _ | refine bel_drews ?_ _ | refine Bel.ext ?_ _ | refine Bel.alloc ?_ _ | refine Bel.drewN ?_ _))) (bel_of hq1)
  clear hq hq1
  replace R2 := R2.bel hx
  replace R3 := R3.bel hx
  replace R4 := R4.bel hx
  replace R5 := R5.bel hx
  replace R6 := R6.bel hx
  replace R7 := R7.bel hx
  replace hb := hb.trans hx
  clear hx xlR6 xeR6_1
  have xlR6 := R6.ats.2
  have xeR6_1 := own_cell R6 (j := 1) (u := .slice (some ⟨W1.heap.size, 0, none⟩) 1 1) rfl
  go_wp2_with (fail)
  refine (fcheck_lit (some ⟨W1.heap.size, 0, none⟩) 1 ([⟨-1, 0, 0⟩]) 8 (by decide) _ (R2.sl.bel (by (try simp only [ext_ext]); repeat (first | exact Bel.refl _ | assumption | refine bel_and ?_ _ | refine bel_drews ?_ _ | refine Bel.ext ?_ _ | refine Bel.alloc ?_ _ | refine Bel.drewN ?_ _)))).mono ?_
  rintro e W17 ⟨rfl, hq⟩
  have hq1 := hq
  have hx : Bel W16 W17 := Bel.trans (show Bel W16 _ from (by (try simp only [ext_ext]); repeat (first | exact Bel.refl _ | assumption | refine bel_and ?_ _ | refine bel_drews ?_ _ | refine Bel.ext ?_ _ | refine Bel.alloc ?_ _ | refine Bel.drewN ?_ _))) (bel_of hq1)
  clear hq hq1
  replace R3 := R3.bel hx
  replace R4 := R4.bel hx
  replace R5 := R5.bel hx
  replace R6 := R6.bel hx
  replace R7 := R7.bel hx
  replace hb := hb.trans hx
  clear hx xlR6 xeR6_1 R2
  go_wp2
  rw [rounds_succ]
  have xlR7 := R7.ats.2
  have xeR7_2 := own_cell R7 (j := 2) (u := .int .i64 32) rfl
  have xlR6 := R6.ats.2
  have xeR6_2 := own_cell R6 (j := 2) (u := .slice (some ⟨W1.heap.size + 1, 0, none⟩) 2 2) rfl
  go_wp2_with (fail)
  refine (find_lit (some ⟨W1.heap.size + 1, 0, none⟩) 2 ([⟨2, 0, 0⟩, ⟨2, 0, 0⟩]) 2 Pt.zero 32 (bad_find (show fieldChk [⟨2, 0, 0⟩, ⟨2, 0, 0⟩] = 32 by decide) (by decide) 2) _ (R3.sl.bel (by (try simp only [ext_ext]); repeat (first | exact Bel.refl _ | assumption | refine bel_and ?_ _ | refine bel_drews ?_ _ | refine Bel.ext ?_ _ | refine Bel.alloc ?_ _ | refine Bel.drewN ?_ _)))).mono ?_
  rintro e W18 ⟨rfl, hq⟩
  have hq1 := hq
  have hx : Bel W17 W18 := Bel.trans (show Bel W17 _ from (by (try simp only [ext_ext]); repeat (first | exact Bel.refl _ | assumption | refine bel_and ?_ _ | refine bel_drews ?_ _ | refine Bel.ext ?_ _ | refine Bel.alloc ?_ _ | refine Bel.drewN ?_ _))) (bel_of hq1)
  clear hq hq1
  replace R3 := R3.bel hx
  replace R4 := R4.bel hx
  replace R5 := R5.bel hx
  replace R6 := R6.bel hx
  replace R7 := R7.bel hx
  replace hb := hb.trans hx
  clear hx xlR7 xeR7_2 xlR6 xeR6_2
  have xlR6 := R6.ats.2
  have xeR6_2 := own_cell R6 (j := 2) (u := .slice (some ⟨W1.heap.size + 1, 0, none⟩) 2 2) rfl
  go_wp2_with (fail)
  refine (put_lit (some ⟨W1.heap.size + 1, 0, none⟩) 2 ([⟨2, 0, 0⟩, ⟨2, 0, 0⟩]) ⟨-1, 0, 0⟩ ([]) 32 (bad_put (show fieldChk [⟨2, 0, 0⟩, ⟨2, 0, 0⟩] = 32 by decide) (by decide) ⟨-1, 0, 0⟩) _ (R3.sl.bel (by (try simp only [ext_ext]); repeat (first | exact Bel.refl _ | assumption | refine bel_and ?_ _ | refine bel_drews ?_ _ | refine Bel.ext ?_ _ | refine Bel.alloc ?_ _ | refine Bel.drewN ?_ _))) (fun h => by cases h)).mono ?_
  rintro e W19 ⟨A25, c25, rfl, hq⟩
  have hq1 := own_split hq
  have hx : Bel W18 W19 := Bel.trans (show Bel W18 _ from (by (try simp only [ext_ext]); repeat (first | exact Bel.refl _ | assumption | refine bel_and ?_ _ | refine bel_drews ?_ _ | refine Bel.ext ?_ _ | refine Bel.alloc ?_ _ | refine Bel.drewN ?_ _))) (bel_of hq1)
  have hxb : Bel (W18.alloc (.cells #[.int .i64 Pt.zero.id, .int .i64 Pt.zero.a, .int .i64 Pt.zero.b] 26)) W19 := by obtain ⟨y, hy⟩ := hq1; rw [hy]; exact (by (try simp only [ext_ext]); repeat (first | exact Bel.refl _ | assumption | refine bel_and ?_ _ | refine bel_drews ?_ _ | refine Bel.ext ?_ _ | refine Bel.alloc ?_ _ | refine Bel.drewN ?_ _))
  clear hxb
  clear hq hq1
  replace R3 := R3.bel hx
  replace R4 := R4.bel hx
  replace R5 := R5.bel hx
  replace R6 := R6.bel hx
  replace R7 := R7.bel hx
  replace hb := hb.trans hx
  clear hx xlR6 xeR6_2
  have xlR6 := R6.ats.2
  have xeR6_2 := own_cell R6 (j := 2) (u := .slice (some ⟨W1.heap.size + 1, 0, none⟩) 2 2) rfl
  go_wp2_with (fail)
  refine (take_lit (some ⟨W1.heap.size + 1, 0, none⟩) 2 ([⟨2, 0, 0⟩, ⟨2, 0, 0⟩]) 2 ([]) 32 (bad_take (show fieldChk [⟨2, 0, 0⟩, ⟨2, 0, 0⟩] = 32 by decide) (by decide) 2) _ (R3.sl.bel (by (try simp only [ext_ext]); repeat (first | exact Bel.refl _ | assumption | refine bel_and ?_ _ | refine bel_drews ?_ _ | refine Bel.ext ?_ _ | refine Bel.alloc ?_ _ | refine Bel.drewN ?_ _))) (fun h => by cases h)).mono ?_
  rintro e W20 ⟨A27, c27, rfl, hq⟩
  have hq1 := own_split hq
  have hx : Bel W19 W20 := Bel.trans (show Bel W19 _ from (by (try simp only [ext_ext]); repeat (first | exact Bel.refl _ | assumption | refine bel_and ?_ _ | refine bel_drews ?_ _ | refine Bel.ext ?_ _ | refine Bel.alloc ?_ _ | refine Bel.drewN ?_ _))) (bel_of hq1)
  have hxb : Bel (W19.alloc (.cells #[.slice A25 0 c25] 24)) W20 := by obtain ⟨y, hy⟩ := hq1; rw [hy]; exact (by (try simp only [ext_ext]); repeat (first | exact Bel.refl _ | assumption | refine bel_and ?_ _ | refine bel_drews ?_ _ | refine Bel.ext ?_ _ | refine Bel.alloc ?_ _ | refine Bel.drewN ?_ _))
  clear hxb
  clear hq hq1
  replace R3 := R3.bel hx
  replace R4 := R4.bel hx
  replace R5 := R5.bel hx
  replace R6 := R6.bel hx
  replace R7 := R7.bel hx
  replace hb := hb.trans hx
  clear hx xlR6 xeR6_2
  have xlR6 := R6.ats.2
  have xeR6_2 := own_cell R6 (j := 2) (u := .slice (some ⟨W1.heap.size + 1, 0, none⟩) 2 2) rfl
  go_wp2_with (fail)
  refine (change_lit (some ⟨W1.heap.size + 1, 0, none⟩) 2 ([⟨2, 0, 0⟩, ⟨2, 0, 0⟩]) ⟨-1, 0, 0⟩ ([]) 32 (bad_change (show fieldChk [⟨2, 0, 0⟩, ⟨2, 0, 0⟩] = 32 by decide) (by decide) ⟨-1, 0, 0⟩) _ (R3.sl.bel (by (try simp only [ext_ext]); repeat (first | exact Bel.refl _ | assumption | refine bel_and ?_ _ | refine bel_drews ?_ _ | refine Bel.ext ?_ _ | refine Bel.alloc ?_ _ | refine Bel.drewN ?_ _))) (fun h => by cases h)).mono ?_
  rintro e W21 ⟨A29, c29, rfl, hq⟩
  have hq1 := own_split hq
  have hx : Bel W20 W21 := Bel.trans (show Bel W20 _ from (by (try simp only [ext_ext]); repeat (first | exact Bel.refl _ | assumption | refine bel_and ?_ _ | refine bel_drews ?_ _ | refine Bel.ext ?_ _ | refine Bel.alloc ?_ _ | refine Bel.drewN ?_ _))) (bel_of hq1)
  have hxb : Bel (W20.alloc (.cells #[.slice A27 0 c27] 24)) W21 := by obtain ⟨y, hy⟩ := hq1; rw [hy]; exact (by (try simp only [ext_ext]); repeat (first | exact Bel.refl _ | assumption | refine bel_and ?_ _ | refine bel_drews ?_ _ | refine Bel.ext ?_ _ | refine Bel.alloc ?_ _ | refine Bel.drewN ?_ _))
  clear hxb
  clear hq hq1
  replace R3 := R3.bel hx
  replace R4 := R4.bel hx
  replace R5 := R5.bel hx
  replace R6 := R6.bel hx
  replace R7 := R7.bel hx
  replace hb := hb.trans hx
  clear hx xlR6 xeR6_2
  have xlR6 := R6.ats.2
  have xeR6_2 := own_cell R6 (j := 2) (u := .slice (some ⟨W1.heap.size + 1, 0, none⟩) 2 2) rfl
  go_wp2_with (fail)
  refine (leader_lit (some ⟨W1.heap.size + 1, 0, none⟩) 2 ([⟨2, 0, 0⟩, ⟨2, 0, 0⟩]) 0 0 0 32 (bad_leader (show fieldChk [⟨2, 0, 0⟩, ⟨2, 0, 0⟩] = 32 by decide) (by decide) 0 0) _ (by decide) (by decide) (R3.sl.bel (by (try simp only [ext_ext]); repeat (first | exact Bel.refl _ | assumption | refine bel_and ?_ _ | refine bel_drews ?_ _ | refine Bel.ext ?_ _ | refine Bel.alloc ?_ _ | refine Bel.drewN ?_ _))) (fun h => by cases h)).mono ?_
  rintro e W22 ⟨rfl, hq⟩
  have hq1 := hq
  have hx : Bel W21 W22 := Bel.trans (show Bel W21 _ from (by (try simp only [ext_ext]); repeat (first | exact Bel.refl _ | assumption | refine bel_and ?_ _ | refine bel_drews ?_ _ | refine Bel.ext ?_ _ | refine Bel.alloc ?_ _ | refine Bel.drewN ?_ _))) (bel_of hq1)
  have hxb : Bel (W21.alloc (.cells #[.slice A29 0 c29] 24)) W22 := by obtain ⟨y, hy⟩ := hq1; rw [hy]; exact (by (try simp only [ext_ext]); repeat (first | exact Bel.refl _ | assumption | refine bel_and ?_ _ | refine bel_drews ?_ _ | refine Bel.ext ?_ _ | refine Bel.alloc ?_ _ | refine Bel.drewN ?_ _))
  clear hxb
  clear hq hq1
  replace R3 := R3.bel hx
  replace R4 := R4.bel hx
  replace R5 := R5.bel hx
  replace R6 := R6.bel hx
  replace R7 := R7.bel hx
  replace hb := hb.trans hx
  clear hx xlR6 xeR6_2
  have xlR6 := R6.ats.2
  have xeR6_2 := own_cell R6 (j := 2) (u := .slice (some ⟨W1.heap.size + 1, 0, none⟩) 2 2) rfl
  go_wp2_with (fail)
  refine (order_lit (some ⟨W1.heap.size + 1, 0, none⟩) 2 ([⟨2, 0, 0⟩, ⟨2, 0, 0⟩]) 0 0 ([]) 32 (bad_order (show fieldChk [⟨2, 0, 0⟩, ⟨2, 0, 0⟩] = 32 by decide) (by decide) 0 0) _ (by decide) (by decide) (R3.sl.bel (by (try simp only [ext_ext]); repeat (first | exact Bel.refl _ | assumption | refine bel_and ?_ _ | refine bel_drews ?_ _ | refine Bel.ext ?_ _ | refine Bel.alloc ?_ _ | refine Bel.drewN ?_ _))) (fun h => by cases h) (by decide)).mono ?_
  rintro e W23 ⟨A31, c31, rfl, hq⟩
  have hq1 := own_split hq
  have hx : Bel W22 W23 := Bel.trans (show Bel W22 _ from (by (try simp only [ext_ext]); repeat (first | exact Bel.refl _ | assumption | refine bel_and ?_ _ | refine bel_drews ?_ _ | refine Bel.ext ?_ _ | refine Bel.alloc ?_ _ | refine Bel.drewN ?_ _))) (bel_of hq1)
  clear hq hq1
  replace R3 := R3.bel hx
  replace R4 := R4.bel hx
  replace R5 := R5.bel hx
  replace R6 := R6.bel hx
  replace R7 := R7.bel hx
  replace hb := hb.trans hx
  clear hx xlR6 xeR6_2
  have xlR6 := R6.ats.2
  have xeR6_2 := own_cell R6 (j := 2) (u := .slice (some ⟨W1.heap.size + 1, 0, none⟩) 2 2) rfl
  go_wp2_with (fail)
  refine (rank_lit (some ⟨W1.heap.size + 1, 0, none⟩) 2 ([⟨2, 0, 0⟩, ⟨2, 0, 0⟩]) 2 0 0 0 32 (bad_rank (show fieldChk [⟨2, 0, 0⟩, ⟨2, 0, 0⟩] = 32 by decide) (by decide) 2 0 0) _ (by decide) (by decide) (R3.sl.bel (by (try simp only [ext_ext]); repeat (first | exact Bel.refl _ | assumption | refine bel_and ?_ _ | refine bel_drews ?_ _ | refine Bel.ext ?_ _ | refine Bel.alloc ?_ _ | refine Bel.drewN ?_ _))) (fun h => by cases h) (by decide)).mono ?_
  rintro e W24 ⟨rfl, hq⟩
  have hq1 := hq
  have hx : Bel W23 W24 := Bel.trans (show Bel W23 _ from (by (try simp only [ext_ext]); repeat (first | exact Bel.refl _ | assumption | refine bel_and ?_ _ | refine bel_drews ?_ _ | refine Bel.ext ?_ _ | refine Bel.alloc ?_ _ | refine Bel.drewN ?_ _))) (bel_of hq1)
  clear hq hq1
  replace R3 := R3.bel hx
  replace R4 := R4.bel hx
  replace R5 := R5.bel hx
  replace R6 := R6.bel hx
  replace R7 := R7.bel hx
  replace hb := hb.trans hx
  clear hx xlR6 xeR6_2
  have xlR6 := R6.ats.2
  have xeR6_2 := own_cell R6 (j := 2) (u := .slice (some ⟨W1.heap.size + 1, 0, none⟩) 2 2) rfl
  go_wp2_with (fail)
  refine (fcheck_lit (some ⟨W1.heap.size + 1, 0, none⟩) 2 ([⟨2, 0, 0⟩, ⟨2, 0, 0⟩]) 32 (by decide) _ (R3.sl.bel (by (try simp only [ext_ext]); repeat (first | exact Bel.refl _ | assumption | refine bel_and ?_ _ | refine bel_drews ?_ _ | refine Bel.ext ?_ _ | refine Bel.alloc ?_ _ | refine Bel.drewN ?_ _)))).mono ?_
  rintro e W25 ⟨rfl, hq⟩
  have hq1 := hq
  have hx : Bel W24 W25 := Bel.trans (show Bel W24 _ from (by (try simp only [ext_ext]); repeat (first | exact Bel.refl _ | assumption | refine bel_and ?_ _ | refine bel_drews ?_ _ | refine Bel.ext ?_ _ | refine Bel.alloc ?_ _ | refine Bel.drewN ?_ _))) (bel_of hq1)
  clear hq hq1
  replace R4 := R4.bel hx
  replace R5 := R5.bel hx
  replace R6 := R6.bel hx
  replace R7 := R7.bel hx
  replace hb := hb.trans hx
  clear hx xlR6 xeR6_2 R3
  go_wp2
  rw [rounds_succ]
  have xlR7 := R7.ats.2
  have xeR7_3 := own_cell R7 (j := 3) (u := .int .i64 32) rfl
  have xlR6 := R6.ats.2
  have xeR6_3 := own_cell R6 (j := 3) (u := .slice (some ⟨W1.heap.size + 2, 0, none⟩) 2 2) rfl
  go_wp2_with (fail)
  refine (find_lit (some ⟨W1.heap.size + 2, 0, none⟩) 2 ([⟨2, 0, 0⟩, ⟨1, 0, 0⟩]) 2 Pt.zero 32 (bad_find (show fieldChk [⟨2, 0, 0⟩, ⟨1, 0, 0⟩] = 32 by decide) (by decide) 2) _ (R4.sl.bel (by (try simp only [ext_ext]); repeat (first | exact Bel.refl _ | assumption | refine bel_and ?_ _ | refine bel_drews ?_ _ | refine Bel.ext ?_ _ | refine Bel.alloc ?_ _ | refine Bel.drewN ?_ _)))).mono ?_
  rintro e W26 ⟨rfl, hq⟩
  have hq1 := hq
  have hx : Bel W25 W26 := Bel.trans (show Bel W25 _ from (by (try simp only [ext_ext]); repeat (first | exact Bel.refl _ | assumption | refine bel_and ?_ _ | refine bel_drews ?_ _ | refine Bel.ext ?_ _ | refine Bel.alloc ?_ _ | refine Bel.drewN ?_ _))) (bel_of hq1)
  clear hq hq1
  replace R4 := R4.bel hx
  replace R5 := R5.bel hx
  replace R6 := R6.bel hx
  replace R7 := R7.bel hx
  replace hb := hb.trans hx
  clear hx xlR7 xeR7_3 xlR6 xeR6_3
  have xlR6 := R6.ats.2
  have xeR6_3 := own_cell R6 (j := 3) (u := .slice (some ⟨W1.heap.size + 2, 0, none⟩) 2 2) rfl
  go_wp2_with (fail)
  refine (put_lit (some ⟨W1.heap.size + 2, 0, none⟩) 2 ([⟨2, 0, 0⟩, ⟨1, 0, 0⟩]) ⟨-1, 0, 0⟩ ([]) 32 (bad_put (show fieldChk [⟨2, 0, 0⟩, ⟨1, 0, 0⟩] = 32 by decide) (by decide) ⟨-1, 0, 0⟩) _ (R4.sl.bel (by (try simp only [ext_ext]); repeat (first | exact Bel.refl _ | assumption | refine bel_and ?_ _ | refine bel_drews ?_ _ | refine Bel.ext ?_ _ | refine Bel.alloc ?_ _ | refine Bel.drewN ?_ _))) (fun h => by cases h)).mono ?_
  rintro e W27 ⟨A33, c33, rfl, hq⟩
  have hq1 := own_split hq
  have hx : Bel W26 W27 := Bel.trans (show Bel W26 _ from (by (try simp only [ext_ext]); repeat (first | exact Bel.refl _ | assumption | refine bel_and ?_ _ | refine bel_drews ?_ _ | refine Bel.ext ?_ _ | refine Bel.alloc ?_ _ | refine Bel.drewN ?_ _))) (bel_of hq1)
  have hxb : Bel (W26.alloc (.cells #[.int .i64 Pt.zero.id, .int .i64 Pt.zero.a, .int .i64 Pt.zero.b] 26)) W27 := by obtain ⟨y, hy⟩ := hq1; rw [hy]; exact (by (try simp only [ext_ext]); repeat (first | exact Bel.refl _ | assumption | refine bel_and ?_ _ | refine bel_drews ?_ _ | refine Bel.ext ?_ _ | refine Bel.alloc ?_ _ | refine Bel.drewN ?_ _))
  clear hxb
  clear hq hq1
  replace R4 := R4.bel hx
  replace R5 := R5.bel hx
  replace R6 := R6.bel hx
  replace R7 := R7.bel hx
  replace hb := hb.trans hx
  clear hx xlR6 xeR6_3
  have xlR6 := R6.ats.2
  have xeR6_3 := own_cell R6 (j := 3) (u := .slice (some ⟨W1.heap.size + 2, 0, none⟩) 2 2) rfl
  go_wp2_with (fail)
  refine (take_lit (some ⟨W1.heap.size + 2, 0, none⟩) 2 ([⟨2, 0, 0⟩, ⟨1, 0, 0⟩]) 2 ([]) 32 (bad_take (show fieldChk [⟨2, 0, 0⟩, ⟨1, 0, 0⟩] = 32 by decide) (by decide) 2) _ (R4.sl.bel (by (try simp only [ext_ext]); repeat (first | exact Bel.refl _ | assumption | refine bel_and ?_ _ | refine bel_drews ?_ _ | refine Bel.ext ?_ _ | refine Bel.alloc ?_ _ | refine Bel.drewN ?_ _))) (fun h => by cases h)).mono ?_
  rintro e W28 ⟨A35, c35, rfl, hq⟩
  have hq1 := own_split hq
  have hx : Bel W27 W28 := Bel.trans (show Bel W27 _ from (by (try simp only [ext_ext]); repeat (first | exact Bel.refl _ | assumption | refine bel_and ?_ _ | refine bel_drews ?_ _ | refine Bel.ext ?_ _ | refine Bel.alloc ?_ _ | refine Bel.drewN ?_ _))) (bel_of hq1)
  have hxb : Bel (W27.alloc (.cells #[.slice A33 0 c33] 24)) W28 := by obtain ⟨y, hy⟩ := hq1; rw [hy]; exact (by (try simp only [ext_ext]); repeat (first | exact Bel.refl _ | assumption | refine bel_and ?_ _ | refine bel_drews ?_ _ | refine Bel.ext ?_ _ | refine Bel.alloc ?_ _ | refine Bel.drewN ?_ _))
  clear hxb
  clear hq hq1
  replace R4 := R4.bel hx
  replace R5 := R5.bel hx
  replace R6 := R6.bel hx
  replace R7 := R7.bel hx
  replace hb := hb.trans hx
  clear hx xlR6 xeR6_3
  have xlR6 := R6.ats.2
  have xeR6_3 := own_cell R6 (j := 3) (u := .slice (some ⟨W1.heap.size + 2, 0, none⟩) 2 2) rfl
  go_wp2_with (fail)
  refine (change_lit (some ⟨W1.heap.size + 2, 0, none⟩) 2 ([⟨2, 0, 0⟩, ⟨1, 0, 0⟩]) ⟨-1, 0, 0⟩ ([]) 32 (bad_change (show fieldChk [⟨2, 0, 0⟩, ⟨1, 0, 0⟩] = 32 by decide) (by decide) ⟨-1, 0, 0⟩) _ (R4.sl.bel (by (try simp only [ext_ext]); repeat (first | exact Bel.refl _ | assumption | refine bel_and ?_ _ | refine bel_drews ?_ _ | refine Bel.ext ?_ _ | refine Bel.alloc ?_ _ | refine Bel.drewN ?_ _))) (fun h => by cases h)).mono ?_
  rintro e W29 ⟨A37, c37, rfl, hq⟩
  have hq1 := own_split hq
  have hx : Bel W28 W29 := Bel.trans (show Bel W28 _ from (by (try simp only [ext_ext]); repeat (first | exact Bel.refl _ | assumption | refine bel_and ?_ _ | refine bel_drews ?_ _ | refine Bel.ext ?_ _ | refine Bel.alloc ?_ _ | refine Bel.drewN ?_ _))) (bel_of hq1)
  have hxb : Bel (W28.alloc (.cells #[.slice A35 0 c35] 24)) W29 := by obtain ⟨y, hy⟩ := hq1; rw [hy]; exact (by (try simp only [ext_ext]); repeat (first | exact Bel.refl _ | assumption | refine bel_and ?_ _ | refine bel_drews ?_ _ | refine Bel.ext ?_ _ | refine Bel.alloc ?_ _ | refine Bel.drewN ?_ _))
  clear hxb
  clear hq hq1
  replace R4 := R4.bel hx
  replace R5 := R5.bel hx
  replace R6 := R6.bel hx
  replace R7 := R7.bel hx
  replace hb := hb.trans hx
  clear hx xlR6 xeR6_3
  have xlR6 := R6.ats.2
  have xeR6_3 := own_cell R6 (j := 3) (u := .slice (some ⟨W1.heap.size + 2, 0, none⟩) 2 2) rfl
  go_wp2_with (fail)
  refine (leader_lit (some ⟨W1.heap.size + 2, 0, none⟩) 2 ([⟨2, 0, 0⟩, ⟨1, 0, 0⟩]) 0 0 0 32 (bad_leader (show fieldChk [⟨2, 0, 0⟩, ⟨1, 0, 0⟩] = 32 by decide) (by decide) 0 0) _ (by decide) (by decide) (R4.sl.bel (by (try simp only [ext_ext]); repeat (first | exact Bel.refl _ | assumption | refine bel_and ?_ _ | refine bel_drews ?_ _ | refine Bel.ext ?_ _ | refine Bel.alloc ?_ _ | refine Bel.drewN ?_ _))) (fun h => by cases h)).mono ?_
  rintro e W30 ⟨rfl, hq⟩
  have hq1 := hq
  have hx : Bel W29 W30 := Bel.trans (show Bel W29 _ from (by (try simp only [ext_ext]); repeat (first | exact Bel.refl _ | assumption | refine bel_and ?_ _ | refine bel_drews ?_ _ | refine Bel.ext ?_ _ | refine Bel.alloc ?_ _ | refine Bel.drewN ?_ _))) (bel_of hq1)
  have hxb : Bel (W29.alloc (.cells #[.slice A37 0 c37] 24)) W30 := by obtain ⟨y, hy⟩ := hq1; rw [hy]; exact (by (try simp only [ext_ext]); repeat (first | exact Bel.refl _ | assumption | refine bel_and ?_ _ | refine bel_drews ?_ _ | refine Bel.ext ?_ _ | refine Bel.alloc ?_ _ | refine Bel.drewN ?_ _))
  clear hxb
  clear hq hq1
  replace R4 := R4.bel hx
  replace R5 := R5.bel hx
  replace R6 := R6.bel hx
  replace R7 := R7.bel hx
  replace hb := hb.trans hx
  clear hx xlR6 xeR6_3
  have xlR6 := R6.ats.2
  have xeR6_3 := own_cell R6 (j := 3) (u := .slice (some ⟨W1.heap.size + 2, 0, none⟩) 2 2) rfl
  go_wp2_with (fail)
  refine (order_lit (some ⟨W1.heap.size + 2, 0, none⟩) 2 ([⟨2, 0, 0⟩, ⟨1, 0, 0⟩]) 0 0 ([]) 32 (bad_order (show fieldChk [⟨2, 0, 0⟩, ⟨1, 0, 0⟩] = 32 by decide) (by decide) 0 0) _ (by decide) (by decide) (R4.sl.bel (by (try simp only [ext_ext]); repeat (first | exact Bel.refl _ | assumption | refine bel_and ?_ _ | refine bel_drews ?_ _ | refine Bel.ext ?_ _ | refine Bel.alloc ?_ _ | refine Bel.drewN ?_ _))) (fun h => by cases h) (by decide)).mono ?_
  rintro e W31 ⟨A39, c39, rfl, hq⟩
  have hq1 := own_split hq
  have hx : Bel W30 W31 := Bel.trans (show Bel W30 _ from (by (try simp only [ext_ext]); repeat (first | exact Bel.refl _ | assumption | refine bel_and ?_ _ | refine bel_drews ?_ _ | refine Bel.ext ?_ _ | refine Bel.alloc ?_ _ | refine Bel.drewN ?_ _))) (bel_of hq1)
  clear hq hq1
  replace R4 := R4.bel hx
  replace R5 := R5.bel hx
  replace R6 := R6.bel hx
  replace R7 := R7.bel hx
  replace hb := hb.trans hx
  clear hx xlR6 xeR6_3
  have xlR6 := R6.ats.2
  have xeR6_3 := own_cell R6 (j := 3) (u := .slice (some ⟨W1.heap.size + 2, 0, none⟩) 2 2) rfl
  go_wp2_with (fail)
  refine (rank_lit (some ⟨W1.heap.size + 2, 0, none⟩) 2 ([⟨2, 0, 0⟩, ⟨1, 0, 0⟩]) 2 0 0 0 32 (bad_rank (show fieldChk [⟨2, 0, 0⟩, ⟨1, 0, 0⟩] = 32 by decide) (by decide) 2 0 0) _ (by decide) (by decide) (R4.sl.bel (by (try simp only [ext_ext]); repeat (first | exact Bel.refl _ | assumption | refine bel_and ?_ _ | refine bel_drews ?_ _ | refine Bel.ext ?_ _ | refine Bel.alloc ?_ _ | refine Bel.drewN ?_ _))) (fun h => by cases h) (by decide)).mono ?_
  rintro e W32 ⟨rfl, hq⟩
  have hq1 := hq
  have hx : Bel W31 W32 := Bel.trans (show Bel W31 _ from (by (try simp only [ext_ext]); repeat (first | exact Bel.refl _ | assumption | refine bel_and ?_ _ | refine bel_drews ?_ _ | refine Bel.ext ?_ _ | refine Bel.alloc ?_ _ | refine Bel.drewN ?_ _))) (bel_of hq1)
  clear hq hq1
  replace R4 := R4.bel hx
  replace R5 := R5.bel hx
  replace R6 := R6.bel hx
  replace R7 := R7.bel hx
  replace hb := hb.trans hx
  clear hx xlR6 xeR6_3
  have xlR6 := R6.ats.2
  have xeR6_3 := own_cell R6 (j := 3) (u := .slice (some ⟨W1.heap.size + 2, 0, none⟩) 2 2) rfl
  go_wp2_with (fail)
  refine (fcheck_lit (some ⟨W1.heap.size + 2, 0, none⟩) 2 ([⟨2, 0, 0⟩, ⟨1, 0, 0⟩]) 32 (by decide) _ (R4.sl.bel (by (try simp only [ext_ext]); repeat (first | exact Bel.refl _ | assumption | refine bel_and ?_ _ | refine bel_drews ?_ _ | refine Bel.ext ?_ _ | refine Bel.alloc ?_ _ | refine Bel.drewN ?_ _)))).mono ?_
  rintro e W33 ⟨rfl, hq⟩
  have hq1 := hq
  have hx : Bel W32 W33 := Bel.trans (show Bel W32 _ from (by (try simp only [ext_ext]); repeat (first | exact Bel.refl _ | assumption | refine bel_and ?_ _ | refine bel_drews ?_ _ | refine Bel.ext ?_ _ | refine Bel.alloc ?_ _ | refine Bel.drewN ?_ _))) (bel_of hq1)
  clear hq hq1
  replace R5 := R5.bel hx
  replace R6 := R6.bel hx
  replace R7 := R7.bel hx
  replace hb := hb.trans hx
  clear hx xlR6 xeR6_3 R4
  go_wp2
  rw [rounds_succ]
  have xlR7 := R7.ats.2
  have xeR7_4 := own_cell R7 (j := 4) (u := .int .i64 8) rfl
  have xlR6 := R6.ats.2
  have xeR6_4 := own_cell R6 (j := 4) (u := .slice (some ⟨W1.heap.size + 3, 0, none⟩) 2 2) rfl
  go_wp2_with (fail)
  refine (find_lit (some ⟨W1.heap.size + 3, 0, none⟩) 2 ([⟨9, 0, 0⟩, ⟨8, 1048577, 0⟩]) 2 Pt.zero 8 (bad_find (show fieldChk [⟨9, 0, 0⟩, ⟨8, 1048577, 0⟩] = 8 by decide) (by decide) 2) _ (R5.sl.bel (by (try simp only [ext_ext]); repeat (first | exact Bel.refl _ | assumption | refine bel_and ?_ _ | refine bel_drews ?_ _ | refine Bel.ext ?_ _ | refine Bel.alloc ?_ _ | refine Bel.drewN ?_ _)))).mono ?_
  rintro e W34 ⟨rfl, hq⟩
  have hq1 := hq
  have hx : Bel W33 W34 := Bel.trans (show Bel W33 _ from (by (try simp only [ext_ext]); repeat (first | exact Bel.refl _ | assumption | refine bel_and ?_ _ | refine bel_drews ?_ _ | refine Bel.ext ?_ _ | refine Bel.alloc ?_ _ | refine Bel.drewN ?_ _))) (bel_of hq1)
  clear hq hq1
  replace R5 := R5.bel hx
  replace R6 := R6.bel hx
  replace hb := hb.trans hx
  clear hx xlR7 xeR7_4 xlR6 xeR6_4 R7
  have xlR6 := R6.ats.2
  have xeR6_4 := own_cell R6 (j := 4) (u := .slice (some ⟨W1.heap.size + 3, 0, none⟩) 2 2) rfl
  go_wp2_with (fail)
  refine (put_lit (some ⟨W1.heap.size + 3, 0, none⟩) 2 ([⟨9, 0, 0⟩, ⟨8, 1048577, 0⟩]) ⟨-1, 0, 0⟩ ([]) 8 (bad_put (show fieldChk [⟨9, 0, 0⟩, ⟨8, 1048577, 0⟩] = 8 by decide) (by decide) ⟨-1, 0, 0⟩) _ (R5.sl.bel (by (try simp only [ext_ext]); repeat (first | exact Bel.refl _ | assumption | refine bel_and ?_ _ | refine bel_drews ?_ _ | refine Bel.ext ?_ _ | refine Bel.alloc ?_ _ | refine Bel.drewN ?_ _))) (fun h => by cases h)).mono ?_
  rintro e W35 ⟨A41, c41, rfl, hq⟩
  have hq1 := own_split hq
  have hx : Bel W34 W35 := Bel.trans (show Bel W34 _ from (by (try simp only [ext_ext]); repeat (first | exact Bel.refl _ | assumption | refine bel_and ?_ _ | refine bel_drews ?_ _ | refine Bel.ext ?_ _ | refine Bel.alloc ?_ _ | refine Bel.drewN ?_ _))) (bel_of hq1)
  have hxb : Bel (W34.alloc (.cells #[.int .i64 Pt.zero.id, .int .i64 Pt.zero.a, .int .i64 Pt.zero.b] 26)) W35 := by obtain ⟨y, hy⟩ := hq1; rw [hy]; exact (by (try simp only [ext_ext]); repeat (first | exact Bel.refl _ | assumption | refine bel_and ?_ _ | refine bel_drews ?_ _ | refine Bel.ext ?_ _ | refine Bel.alloc ?_ _ | refine Bel.drewN ?_ _))
  clear hxb
  clear hq hq1
  replace R5 := R5.bel hx
  replace R6 := R6.bel hx
  replace hb := hb.trans hx
  clear hx xlR6 xeR6_4
  have xlR6 := R6.ats.2
  have xeR6_4 := own_cell R6 (j := 4) (u := .slice (some ⟨W1.heap.size + 3, 0, none⟩) 2 2) rfl
  go_wp2_with (fail)
  refine (take_lit (some ⟨W1.heap.size + 3, 0, none⟩) 2 ([⟨9, 0, 0⟩, ⟨8, 1048577, 0⟩]) 2 ([]) 8 (bad_take (show fieldChk [⟨9, 0, 0⟩, ⟨8, 1048577, 0⟩] = 8 by decide) (by decide) 2) _ (R5.sl.bel (by (try simp only [ext_ext]); repeat (first | exact Bel.refl _ | assumption | refine bel_and ?_ _ | refine bel_drews ?_ _ | refine Bel.ext ?_ _ | refine Bel.alloc ?_ _ | refine Bel.drewN ?_ _))) (fun h => by cases h)).mono ?_
  rintro e W36 ⟨A43, c43, rfl, hq⟩
  have hq1 := own_split hq
  have hx : Bel W35 W36 := Bel.trans (show Bel W35 _ from (by (try simp only [ext_ext]); repeat (first | exact Bel.refl _ | assumption | refine bel_and ?_ _ | refine bel_drews ?_ _ | refine Bel.ext ?_ _ | refine Bel.alloc ?_ _ | refine Bel.drewN ?_ _))) (bel_of hq1)
  have hxb : Bel (W35.alloc (.cells #[.slice A41 0 c41] 24)) W36 := by obtain ⟨y, hy⟩ := hq1; rw [hy]; exact (by (try simp only [ext_ext]); repeat (first | exact Bel.refl _ | assumption | refine bel_and ?_ _ | refine bel_drews ?_ _ | refine Bel.ext ?_ _ | refine Bel.alloc ?_ _ | refine Bel.drewN ?_ _))
  clear hxb
  clear hq hq1
  replace R5 := R5.bel hx
  replace R6 := R6.bel hx
  replace hb := hb.trans hx
  clear hx xlR6 xeR6_4
  have xlR6 := R6.ats.2
  have xeR6_4 := own_cell R6 (j := 4) (u := .slice (some ⟨W1.heap.size + 3, 0, none⟩) 2 2) rfl
  go_wp2_with (fail)
  refine (change_lit (some ⟨W1.heap.size + 3, 0, none⟩) 2 ([⟨9, 0, 0⟩, ⟨8, 1048577, 0⟩]) ⟨-1, 0, 0⟩ ([]) 8 (bad_change (show fieldChk [⟨9, 0, 0⟩, ⟨8, 1048577, 0⟩] = 8 by decide) (by decide) ⟨-1, 0, 0⟩) _ (R5.sl.bel (by (try simp only [ext_ext]); repeat (first | exact Bel.refl _ | assumption | refine bel_and ?_ _ | refine bel_drews ?_ _ | refine Bel.ext ?_ _ | refine Bel.alloc ?_ _ | refine Bel.drewN ?_ _))) (fun h => by cases h)).mono ?_
  rintro e W37 ⟨A45, c45, rfl, hq⟩
  have hq1 := own_split hq
  have hx : Bel W36 W37 := Bel.trans (show Bel W36 _ from (by (try simp only [ext_ext]); repeat (first | exact Bel.refl _ | assumption | refine bel_and ?_ _ | refine bel_drews ?_ _ | refine Bel.ext ?_ _ | refine Bel.alloc ?_ _ | refine Bel.drewN ?_ _))) (bel_of hq1)
  have hxb : Bel (W36.alloc (.cells #[.slice A43 0 c43] 24)) W37 := by obtain ⟨y, hy⟩ := hq1; rw [hy]; exact (by (try simp only [ext_ext]); repeat (first | exact Bel.refl _ | assumption | refine bel_and ?_ _ | refine bel_drews ?_ _ | refine Bel.ext ?_ _ | refine Bel.alloc ?_ _ | refine Bel.drewN ?_ _))
  clear hxb
  clear hq hq1
  replace R5 := R5.bel hx
  replace R6 := R6.bel hx
  replace hb := hb.trans hx
  clear hx xlR6 xeR6_4
  have xlR6 := R6.ats.2
  have xeR6_4 := own_cell R6 (j := 4) (u := .slice (some ⟨W1.heap.size + 3, 0, none⟩) 2 2) rfl
  go_wp2_with (fail)
  refine (leader_lit (some ⟨W1.heap.size + 3, 0, none⟩) 2 ([⟨9, 0, 0⟩, ⟨8, 1048577, 0⟩]) 0 0 0 8 (bad_leader (show fieldChk [⟨9, 0, 0⟩, ⟨8, 1048577, 0⟩] = 8 by decide) (by decide) 0 0) _ (by decide) (by decide) (R5.sl.bel (by (try simp only [ext_ext]); repeat (first | exact Bel.refl _ | assumption | refine bel_and ?_ _ | refine bel_drews ?_ _ | refine Bel.ext ?_ _ | refine Bel.alloc ?_ _ | refine Bel.drewN ?_ _))) (fun h => by cases h)).mono ?_
  rintro e W38 ⟨rfl, hq⟩
  have hq1 := hq
  have hx : Bel W37 W38 := Bel.trans (show Bel W37 _ from (by (try simp only [ext_ext]); repeat (first | exact Bel.refl _ | assumption | refine bel_and ?_ _ | refine bel_drews ?_ _ | refine Bel.ext ?_ _ | refine Bel.alloc ?_ _ | refine Bel.drewN ?_ _))) (bel_of hq1)
  have hxb : Bel (W37.alloc (.cells #[.slice A45 0 c45] 24)) W38 := by obtain ⟨y, hy⟩ := hq1; rw [hy]; exact (by (try simp only [ext_ext]); repeat (first | exact Bel.refl _ | assumption | refine bel_and ?_ _ | refine bel_drews ?_ _ | refine Bel.ext ?_ _ | refine Bel.alloc ?_ _ | refine Bel.drewN ?_ _))
  clear hxb
  clear hq hq1
  replace R5 := R5.bel hx
  replace R6 := R6.bel hx
  replace hb := hb.trans hx
  clear hx xlR6 xeR6_4
  have xlR6 := R6.ats.2
  have xeR6_4 := own_cell R6 (j := 4) (u := .slice (some ⟨W1.heap.size + 3, 0, none⟩) 2 2) rfl
  go_wp2_with (fail)
  refine (order_lit (some ⟨W1.heap.size + 3, 0, none⟩) 2 ([⟨9, 0, 0⟩, ⟨8, 1048577, 0⟩]) 0 0 ([]) 8 (bad_order (show fieldChk [⟨9, 0, 0⟩, ⟨8, 1048577, 0⟩] = 8 by decide) (by decide) 0 0) _ (by decide) (by decide) (R5.sl.bel (by (try simp only [ext_ext]); repeat (first | exact Bel.refl _ | assumption | refine bel_and ?_ _ | refine bel_drews ?_ _ | refine Bel.ext ?_ _ | refine Bel.alloc ?_ _ | refine Bel.drewN ?_ _))) (fun h => by cases h) (by decide)).mono ?_
  rintro e W39 ⟨A47, c47, rfl, hq⟩
  have hq1 := own_split hq
  have hx : Bel W38 W39 := Bel.trans (show Bel W38 _ from (by (try simp only [ext_ext]); repeat (first | exact Bel.refl _ | assumption | refine bel_and ?_ _ | refine bel_drews ?_ _ | refine Bel.ext ?_ _ | refine Bel.alloc ?_ _ | refine Bel.drewN ?_ _))) (bel_of hq1)
  clear hq hq1
  replace R5 := R5.bel hx
  replace R6 := R6.bel hx
  replace hb := hb.trans hx
  clear hx xlR6 xeR6_4
  have xlR6 := R6.ats.2
  have xeR6_4 := own_cell R6 (j := 4) (u := .slice (some ⟨W1.heap.size + 3, 0, none⟩) 2 2) rfl
  go_wp2_with (fail)
  refine (rank_lit (some ⟨W1.heap.size + 3, 0, none⟩) 2 ([⟨9, 0, 0⟩, ⟨8, 1048577, 0⟩]) 2 0 0 0 8 (bad_rank (show fieldChk [⟨9, 0, 0⟩, ⟨8, 1048577, 0⟩] = 8 by decide) (by decide) 2 0 0) _ (by decide) (by decide) (R5.sl.bel (by (try simp only [ext_ext]); repeat (first | exact Bel.refl _ | assumption | refine bel_and ?_ _ | refine bel_drews ?_ _ | refine Bel.ext ?_ _ | refine Bel.alloc ?_ _ | refine Bel.drewN ?_ _))) (fun h => by cases h) (by decide)).mono ?_
  rintro e W40 ⟨rfl, hq⟩
  have hq1 := hq
  have hx : Bel W39 W40 := Bel.trans (show Bel W39 _ from (by (try simp only [ext_ext]); repeat (first | exact Bel.refl _ | assumption | refine bel_and ?_ _ | refine bel_drews ?_ _ | refine Bel.ext ?_ _ | refine Bel.alloc ?_ _ | refine Bel.drewN ?_ _))) (bel_of hq1)
  clear hq hq1
  replace R5 := R5.bel hx
  replace R6 := R6.bel hx
  replace hb := hb.trans hx
  clear hx xlR6 xeR6_4
  have xlR6 := R6.ats.2
  have xeR6_4 := own_cell R6 (j := 4) (u := .slice (some ⟨W1.heap.size + 3, 0, none⟩) 2 2) rfl
  go_wp2_with (fail)
  refine (fcheck_lit (some ⟨W1.heap.size + 3, 0, none⟩) 2 ([⟨9, 0, 0⟩, ⟨8, 1048577, 0⟩]) 8 (by decide) _ (R5.sl.bel (by (try simp only [ext_ext]); repeat (first | exact Bel.refl _ | assumption | refine bel_and ?_ _ | refine bel_drews ?_ _ | refine Bel.ext ?_ _ | refine Bel.alloc ?_ _ | refine Bel.drewN ?_ _)))).mono ?_
  rintro e W41 ⟨rfl, hq⟩
  have hq1 := hq
  have hx : Bel W40 W41 := Bel.trans (show Bel W40 _ from (by (try simp only [ext_ext]); repeat (first | exact Bel.refl _ | assumption | refine bel_and ?_ _ | refine bel_drews ?_ _ | refine Bel.ext ?_ _ | refine Bel.alloc ?_ _ | refine Bel.drewN ?_ _))) (bel_of hq1)
  clear hq hq1
  replace hb := hb.trans hx
  clear hx xlR6 xeR6_4 R5 R6
  go_wp2
  rw [rounds_succ]
  go_wp2_with (fail)
  refine (full_any 64 _ (by decide)).mono ?_
  rintro e W42 ⟨A48, c48, rfl, hq⟩
  have hq1 := own_split hq
  have hx : Bel W41 W42 := Bel.trans (show Bel W41 _ from (by (try simp only [ext_ext]); repeat (first | exact Bel.refl _ | assumption | refine bel_and ?_ _ | refine bel_drews ?_ _ | refine Bel.ext ?_ _ | refine Bel.alloc ?_ _ | refine Bel.drewN ?_ _))) (bel_of hq1)
  have O48 := own_here hq
  clear hq hq1
  replace hb := hb.trans hx
  clear hx
  go_wp2_with (fail)
  refine (put_lit A48 c48 (fullL 64) ⟨65536, 0, 0⟩ ([]) 8 full_put1 _ (O48.sl.bel (by (try simp only [ext_ext]); repeat (first | exact Bel.refl _ | assumption | refine bel_and ?_ _ | refine bel_drews ?_ _ | refine Bel.ext ?_ _ | refine Bel.alloc ?_ _ | refine Bel.drewN ?_ _))) O48.nilc).mono ?_
  rintro e W43 ⟨A49, c49, rfl, hq⟩
  have hq1 := own_split hq
  have hx : Bel W42 W43 := Bel.trans (show Bel W42 _ from (by (try simp only [ext_ext]); repeat (first | exact Bel.refl _ | assumption | refine bel_and ?_ _ | refine bel_drews ?_ _ | refine Bel.ext ?_ _ | refine Bel.alloc ?_ _ | refine Bel.drewN ?_ _))) (bel_of hq1)
  clear hq hq1
  replace hb := hb.trans hx
  clear hx O48
  go_wp2_with (fail)
  refine (full_any 64 _ (by decide)).mono ?_
  rintro e W44 ⟨A51, c51, rfl, hq⟩
  have hq1 := own_split hq
  have hx : Bel W43 W44 := Bel.trans (show Bel W43 _ from (by (try simp only [ext_ext]); repeat (first | exact Bel.refl _ | assumption | refine bel_and ?_ _ | refine bel_drews ?_ _ | refine Bel.ext ?_ _ | refine Bel.alloc ?_ _ | refine Bel.drewN ?_ _))) (bel_of hq1)
  have hxb : Bel (W43.alloc (.cells #[.slice A49 0 c49] 24)) W44 := by obtain ⟨y, hy⟩ := hq1; rw [hy]; exact (by (try simp only [ext_ext]); repeat (first | exact Bel.refl _ | assumption | refine bel_and ?_ _ | refine bel_drews ?_ _ | refine Bel.ext ?_ _ | refine Bel.alloc ?_ _ | refine Bel.drewN ?_ _))
  clear hxb
  have O51 := own_here hq
  clear hq hq1
  replace hb := hb.trans hx
  clear hx
  go_wp2_with (fail)
  refine (put_lit A51 c51 (fullL 64) ⟨2, 0, 0⟩ ([]) 14 full_put2 _ (O51.sl.bel (by (try simp only [ext_ext]); repeat (first | exact Bel.refl _ | assumption | refine bel_and ?_ _ | refine bel_drews ?_ _ | refine Bel.ext ?_ _ | refine Bel.alloc ?_ _ | refine Bel.drewN ?_ _))) O51.nilc).mono ?_
  rintro e W45 ⟨A52, c52, rfl, hq⟩
  have hq1 := own_split hq
  have hx : Bel W44 W45 := Bel.trans (show Bel W44 _ from (by (try simp only [ext_ext]); repeat (first | exact Bel.refl _ | assumption | refine bel_and ?_ _ | refine bel_drews ?_ _ | refine Bel.ext ?_ _ | refine Bel.alloc ?_ _ | refine Bel.drewN ?_ _))) (bel_of hq1)
  clear hq hq1
  replace hb := hb.trans hx
  clear hx O51
  go_wp2_with (fail)
  refine (full_any 64 _ (by decide)).mono ?_
  rintro e W46 ⟨A54, c54, rfl, hq⟩
  have hq1 := own_split hq
  have hx : Bel W45 W46 := Bel.trans (show Bel W45 _ from (by (try simp only [ext_ext]); repeat (first | exact Bel.refl _ | assumption | refine bel_and ?_ _ | refine bel_drews ?_ _ | refine Bel.ext ?_ _ | refine Bel.alloc ?_ _ | refine Bel.drewN ?_ _))) (bel_of hq1)
  have hxb : Bel (W45.alloc (.cells #[.slice A52 0 c52] 24)) W46 := by obtain ⟨y, hy⟩ := hq1; rw [hy]; exact (by (try simp only [ext_ext]); repeat (first | exact Bel.refl _ | assumption | refine bel_and ?_ _ | refine bel_drews ?_ _ | refine Bel.ext ?_ _ | refine Bel.alloc ?_ _ | refine Bel.drewN ?_ _))
  clear hxb
  have O54 := own_here hq
  clear hq hq1
  replace hb := hb.trans hx
  clear hx
  go_wp2_with (fail)
  refine (put_lit A54 c54 (fullL 64) ⟨1, 0, 0⟩ ([]) 18 full_put3 _ (O54.sl.bel (by (try simp only [ext_ext]); repeat (first | exact Bel.refl _ | assumption | refine bel_and ?_ _ | refine bel_drews ?_ _ | refine Bel.ext ?_ _ | refine Bel.alloc ?_ _ | refine Bel.drewN ?_ _))) O54.nilc).mono ?_
  rintro e W47 ⟨A55, c55, rfl, hq⟩
  have hq1 := own_split hq
  have hx : Bel W46 W47 := Bel.trans (show Bel W46 _ from (by (try simp only [ext_ext]); repeat (first | exact Bel.refl _ | assumption | refine bel_and ?_ _ | refine bel_drews ?_ _ | refine Bel.ext ?_ _ | refine Bel.alloc ?_ _ | refine Bel.drewN ?_ _))) (bel_of hq1)
  clear hq hq1
  replace hb := hb.trans hx
  clear hx O54
  go_wp2_with (fail)
  refine (full_any 64 _ (by decide)).mono ?_
  rintro e W48 ⟨A57, c57, rfl, hq⟩
  have hq1 := own_split hq
  have hx : Bel W47 W48 := Bel.trans (show Bel W47 _ from (by (try simp only [ext_ext]); repeat (first | exact Bel.refl _ | assumption | refine bel_and ?_ _ | refine bel_drews ?_ _ | refine Bel.ext ?_ _ | refine Bel.alloc ?_ _ | refine Bel.drewN ?_ _))) (bel_of hq1)
  have hxb : Bel (W47.alloc (.cells #[.slice A55 0 c55] 24)) W48 := by obtain ⟨y, hy⟩ := hq1; rw [hy]; exact (by (try simp only [ext_ext]); repeat (first | exact Bel.refl _ | assumption | refine bel_and ?_ _ | refine bel_drews ?_ _ | refine Bel.ext ?_ _ | refine Bel.alloc ?_ _ | refine Bel.drewN ?_ _))
  clear hxb
  have O57 := own_here hq
  clear hq hq1
  replace hb := hb.trans hx
  clear hx
  go_wp2_with (fail)
  refine (take_lit A57 c57 (fullL 64) 1 ([]) 6 full_take _ (O57.sl.bel (by (try simp only [ext_ext]); repeat (first | exact Bel.refl _ | assumption | refine bel_and ?_ _ | refine bel_drews ?_ _ | refine Bel.ext ?_ _ | refine Bel.alloc ?_ _ | refine Bel.drewN ?_ _))) O57.nilc).mono ?_
  rintro e W49 ⟨A58, c58, rfl, hq⟩
  have hq1 := own_split hq
  have hx : Bel W48 W49 := Bel.trans (show Bel W48 _ from (by (try simp only [ext_ext]); repeat (first | exact Bel.refl _ | assumption | refine bel_and ?_ _ | refine bel_drews ?_ _ | refine Bel.ext ?_ _ | refine Bel.alloc ?_ _ | refine Bel.drewN ?_ _))) (bel_of hq1)
  clear hq hq1
  replace hb := hb.trans hx
  clear hx O57
  go_wp2_with (fail)
  refine (full_any 64 _ (by decide)).mono ?_
  rintro e W50 ⟨A60, c60, rfl, hq⟩
  have hq1 := own_split hq
  have hx : Bel W49 W50 := Bel.trans (show Bel W49 _ from (by (try simp only [ext_ext]); repeat (first | exact Bel.refl _ | assumption | refine bel_and ?_ _ | refine bel_drews ?_ _ | refine Bel.ext ?_ _ | refine Bel.alloc ?_ _ | refine Bel.drewN ?_ _))) (bel_of hq1)
  have hxb : Bel (W49.alloc (.cells #[.slice A58 0 c58] 24)) W50 := by obtain ⟨y, hy⟩ := hq1; rw [hy]; exact (by (try simp only [ext_ext]); repeat (first | exact Bel.refl _ | assumption | refine bel_and ?_ _ | refine bel_drews ?_ _ | refine Bel.ext ?_ _ | refine Bel.alloc ?_ _ | refine Bel.drewN ?_ _))
  clear hxb
  have O60 := own_here hq
  clear hq hq1
  replace hb := hb.trans hx
  clear hx
  go_wp2_with (fail)
  refine (change_lit A60 c60 (fullL 64) ⟨1, 0, 0⟩ ([]) 6 full_change1 _ (O60.sl.bel (by (try simp only [ext_ext]); repeat (first | exact Bel.refl _ | assumption | refine bel_and ?_ _ | refine bel_drews ?_ _ | refine Bel.ext ?_ _ | refine Bel.alloc ?_ _ | refine Bel.drewN ?_ _))) O60.nilc).mono ?_
  rintro e W51 ⟨A61, c61, rfl, hq⟩
  have hq1 := own_split hq
  have hx : Bel W50 W51 := Bel.trans (show Bel W50 _ from (by (try simp only [ext_ext]); repeat (first | exact Bel.refl _ | assumption | refine bel_and ?_ _ | refine bel_drews ?_ _ | refine Bel.ext ?_ _ | refine Bel.alloc ?_ _ | refine Bel.drewN ?_ _))) (bel_of hq1)
  clear hq hq1
  replace hb := hb.trans hx
  clear hx O60
  go_wp2_with (fail)
  refine (full_any 64 _ (by decide)).mono ?_
  rintro e W52 ⟨A63, c63, rfl, hq⟩
  have hq1 := own_split hq
  have hx : Bel W51 W52 := Bel.trans (show Bel W51 _ from (by (try simp only [ext_ext]); repeat (first | exact Bel.refl _ | assumption | refine bel_and ?_ _ | refine bel_drews ?_ _ | refine Bel.ext ?_ _ | refine Bel.alloc ?_ _ | refine Bel.drewN ?_ _))) (bel_of hq1)
  have hxb : Bel (W51.alloc (.cells #[.slice A61 0 c61] 24)) W52 := by obtain ⟨y, hy⟩ := hq1; rw [hy]; exact (by (try simp only [ext_ext]); repeat (first | exact Bel.refl _ | assumption | refine bel_and ?_ _ | refine bel_drews ?_ _ | refine Bel.ext ?_ _ | refine Bel.alloc ?_ _ | refine Bel.drewN ?_ _))
  clear hxb
  have O63 := own_here hq
  clear hq hq1
  replace hb := hb.trans hx
  clear hx
  go_wp2_with (fail)
  refine (change_lit A63 c63 (fullL 64) ⟨1, 0, -1048577⟩ ([]) 8 full_change2 _ (O63.sl.bel (by (try simp only [ext_ext]); repeat (first | exact Bel.refl _ | assumption | refine bel_and ?_ _ | refine bel_drews ?_ _ | refine Bel.ext ?_ _ | refine Bel.alloc ?_ _ | refine Bel.drewN ?_ _))) O63.nilc).mono ?_
  rintro e W53 ⟨A64, c64, rfl, hq⟩
  have hq1 := own_split hq
  have hx : Bel W52 W53 := Bel.trans (show Bel W52 _ from (by (try simp only [ext_ext]); repeat (first | exact Bel.refl _ | assumption | refine bel_and ?_ _ | refine bel_drews ?_ _ | refine Bel.ext ?_ _ | refine Bel.alloc ?_ _ | refine Bel.drewN ?_ _))) (bel_of hq1)
  clear hq hq1
  replace hb := hb.trans hx
  clear hx O63
  go_wp2_with (fail)
  refine (fieldNew_any _).mono ?_
  rintro e W54 ⟨rfl, hq⟩
  have hq1 := hq
  have hx : Bel W53 W54 := Bel.trans (show Bel W53 _ from (by (try simp only [ext_ext]); repeat (first | exact Bel.refl _ | assumption | refine bel_and ?_ _ | refine bel_drews ?_ _ | refine Bel.ext ?_ _ | refine Bel.alloc ?_ _ | refine Bel.drewN ?_ _))) (bel_of hq1)
  have hxb : Bel (W53.alloc (.cells #[.slice A64 0 c64] 24)) W54 := by obtain ⟨y, hy⟩ := hq1; rw [hy]; exact (by (try simp only [ext_ext]); repeat (first | exact Bel.refl _ | assumption | refine bel_and ?_ _ | refine bel_drews ?_ _ | refine Bel.ext ?_ _ | refine Bel.alloc ?_ _ | refine Bel.drewN ?_ _))
  clear hxb
  clear hq hq1
  replace hb := hb.trans hx
  clear hx
  go_wp2_with (fail)
  refine (at03l_any 0 _).mono ?_
  rintro e W55 ⟨rfl, hq⟩
  have hq1 := hq
  have hx : Bel W54 W55 := Bel.trans (show Bel W54 _ from (by (try simp only [ext_ext]); repeat (first | exact Bel.refl _ | assumption | refine bel_and ?_ _ | refine bel_drews ?_ _ | refine Bel.ext ?_ _ | refine Bel.alloc ?_ _ | refine Bel.drewN ?_ _))) (bel_of hq1)
  clear hq hq1
  replace hb := hb.trans hx
  clear hx
  go_wp2_with (fail)
  refine (leader_lit none 0 ([]) 0 1 0 42 nil_leader0 _ (by decide) (by decide) (Sl.nil_ _ _ _ _) (fun _ => rfl)).mono ?_
  rintro e W56 ⟨rfl, hq⟩
  have hq1 := hq
  have hx : Bel W55 W56 := Bel.trans (show Bel W55 _ from (by (try simp only [ext_ext]); repeat (first | exact Bel.refl _ | assumption | refine bel_and ?_ _ | refine bel_drews ?_ _ | refine Bel.ext ?_ _ | refine Bel.alloc ?_ _ | refine Bel.drewN ?_ _))) (bel_of hq1)
  clear hq hq1
  replace hb := hb.trans hx
  clear hx
  go_wp2_with (fail)
  refine (fieldNew_any _).mono ?_
  rintro e W57 ⟨rfl, hq⟩
  have hq1 := hq
  have hx : Bel W56 W57 := Bel.trans (show Bel W56 _ from (by (try simp only [ext_ext]); repeat (first | exact Bel.refl _ | assumption | refine bel_and ?_ _ | refine bel_drews ?_ _ | refine Bel.ext ?_ _ | refine Bel.alloc ?_ _ | refine Bel.drewN ?_ _))) (bel_of hq1)
  clear hq hq1
  replace hb := hb.trans hx
  clear hx
  go_wp2_with (fail)
  refine (leader_lit none 0 ([]) 0 0 0 8 nil_leader1 _ (by decide) (by decide) (Sl.nil_ _ _ _ _) (fun _ => rfl)).mono ?_
  rintro e W58 ⟨rfl, hq⟩
  have hq1 := hq
  have hx : Bel W57 W58 := Bel.trans (show Bel W57 _ from (by (try simp only [ext_ext]); repeat (first | exact Bel.refl _ | assumption | refine bel_and ?_ _ | refine bel_drews ?_ _ | refine Bel.ext ?_ _ | refine Bel.alloc ?_ _ | refine Bel.drewN ?_ _))) (bel_of hq1)
  clear hq hq1
  replace hb := hb.trans hx
  clear hx
  go_wp2_with (fail)
  refine (given03_any _).mono ?_
  rintro e W59 ⟨A66, c66, rfl, hq⟩
  have hq1 := own_split hq
  have hx : Bel W58 W59 := Bel.trans (show Bel W58 _ from (by (try simp only [ext_ext]); repeat (first | exact Bel.refl _ | assumption | refine bel_and ?_ _ | refine bel_drews ?_ _ | refine Bel.ext ?_ _ | refine Bel.alloc ?_ _ | refine Bel.drewN ?_ _))) (bel_of hq1)
  have O66 := own_here hq
  clear hq hq1
  replace hb := hb.trans hx
  clear hx
  go_wp2_with (fail)
  refine (at03l_any 0 _).mono ?_
  rintro e W60 ⟨rfl, hq⟩
  have hq1 := hq
  have hx : Bel W59 W60 := Bel.trans (show Bel W59 _ from (by (try simp only [ext_ext]); repeat (first | exact Bel.refl _ | assumption | refine bel_and ?_ _ | refine bel_drews ?_ _ | refine Bel.ext ?_ _ | refine Bel.alloc ?_ _ | refine Bel.drewN ?_ _))) (bel_of hq1)
  clear hq hq1
  replace O66 := O66.bel hx
  replace hb := hb.trans hx
  clear hx
  go_wp2_with (fail)
  refine (rank_lit A66 c66 givenF 3 0 1 0 6 given_rank3 _ (by decide) (by decide) (O66.sl.bel (by (try simp only [ext_ext]); repeat (first | exact Bel.refl _ | assumption | refine bel_and ?_ _ | refine bel_drews ?_ _ | refine Bel.ext ?_ _ | refine Bel.alloc ?_ _ | refine Bel.drewN ?_ _))) O66.nilc (by decide)).mono ?_
  rintro e W61 ⟨rfl, hq⟩
  have hq1 := hq
  have hx : Bel W60 W61 := Bel.trans (show Bel W60 _ from (by (try simp only [ext_ext]); repeat (first | exact Bel.refl _ | assumption | refine bel_and ?_ _ | refine bel_drews ?_ _ | refine Bel.ext ?_ _ | refine Bel.alloc ?_ _ | refine Bel.drewN ?_ _))) (bel_of hq1)
  clear hq hq1
  replace hb := hb.trans hx
  clear hx O66
  go_wp2_with (fail)
  refine (given03_any _).mono ?_
  rintro e W62 ⟨A67, c67, rfl, hq⟩
  have hq1 := own_split hq
  have hx : Bel W61 W62 := Bel.trans (show Bel W61 _ from (by (try simp only [ext_ext]); repeat (first | exact Bel.refl _ | assumption | refine bel_and ?_ _ | refine bel_drews ?_ _ | refine Bel.ext ?_ _ | refine Bel.alloc ?_ _ | refine Bel.drewN ?_ _))) (bel_of hq1)
  have O67 := own_here hq
  clear hq hq1
  replace hb := hb.trans hx
  clear hx
  go_wp2_with (fail)
  refine (rank_lit A67 c67 givenF 3 1 (-1) 0 8 given_rank4 _ (by decide) (by decide) (O67.sl.bel (by (try simp only [ext_ext]); repeat (first | exact Bel.refl _ | assumption | refine bel_and ?_ _ | refine bel_drews ?_ _ | refine Bel.ext ?_ _ | refine Bel.alloc ?_ _ | refine Bel.drewN ?_ _))) O67.nilc (by decide)).mono ?_
  rintro e W63 ⟨rfl, hq⟩
  have hq1 := hq
  have hx : Bel W62 W63 := Bel.trans (show Bel W62 _ from (by (try simp only [ext_ext]); repeat (first | exact Bel.refl _ | assumption | refine bel_and ?_ _ | refine bel_drews ?_ _ | refine Bel.ext ?_ _ | refine Bel.alloc ?_ _ | refine Bel.drewN ?_ _))) (bel_of hq1)
  clear hq hq1
  replace hb := hb.trans hx
  clear hx O67
  go_wp2_with (fail)
  refine (fieldNew_any _).mono ?_
  rintro e W64 ⟨rfl, hq⟩
  have hq1 := hq
  have hx : Bel W63 W64 := Bel.trans (show Bel W63 _ from (by (try simp only [ext_ext]); repeat (first | exact Bel.refl _ | assumption | refine bel_and ?_ _ | refine bel_drews ?_ _ | refine Bel.ext ?_ _ | refine Bel.alloc ?_ _ | refine Bel.drewN ?_ _))) (bel_of hq1)
  clear hq hq1
  replace hb := hb.trans hx
  clear hx
  go_wp2_with (fail)
  refine (at03l_any 0 _).mono ?_
  rintro e W65 ⟨rfl, hq⟩
  have hq1 := hq
  have hx : Bel W64 W65 := Bel.trans (show Bel W64 _ from (by (try simp only [ext_ext]); repeat (first | exact Bel.refl _ | assumption | refine bel_and ?_ _ | refine bel_drews ?_ _ | refine Bel.ext ?_ _ | refine Bel.alloc ?_ _ | refine Bel.drewN ?_ _))) (bel_of hq1)
  clear hq hq1
  replace hb := hb.trans hx
  clear hx
  go_wp2_with (fail)
  refine (order_lit none 0 ([]) 0 1 ([]) 0 nil_order _ (by decide) (by decide) (Sl.nil_ _ _ _ _) (fun _ => rfl) (by decide)).mono ?_
  rintro e W66 ⟨A68, c68, rfl, hq⟩
  have hq1 := own_split hq
  have hx : Bel W65 W66 := Bel.trans (show Bel W65 _ from (by (try simp only [ext_ext]); repeat (first | exact Bel.refl _ | assumption | refine bel_and ?_ _ | refine bel_drews ?_ _ | refine Bel.ext ?_ _ | refine Bel.alloc ?_ _ | refine Bel.drewN ?_ _))) (bel_of hq1)
  clear hq hq1
  replace hb := hb.trans hx
  clear hx
  go_wp2_with (fail)
  refine (full_any 64 _ (by decide)).mono ?_
  rintro e W67 ⟨A69, c69, rfl, hq⟩
  have hq1 := own_split hq
  have hx : Bel W66 W67 := Bel.trans (show Bel W66 _ from (by (try simp only [ext_ext]); repeat (first | exact Bel.refl _ | assumption | refine bel_and ?_ _ | refine bel_drews ?_ _ | refine Bel.ext ?_ _ | refine Bel.alloc ?_ _ | refine Bel.drewN ?_ _))) (bel_of hq1)
  have O69 := own_here hq
  clear hq hq1
  replace hb := hb.trans hx
  clear hx
  go_wp2_with (fail)
  refine (at03l_any 0 _).mono ?_
  rintro e W68 ⟨rfl, hq⟩
  have hq1 := hq
  have hx : Bel W67 W68 := Bel.trans (show Bel W67 _ from (by (try simp only [ext_ext]); repeat (first | exact Bel.refl _ | assumption | refine bel_and ?_ _ | refine bel_drews ?_ _ | refine Bel.ext ?_ _ | refine Bel.alloc ?_ _ | refine Bel.drewN ?_ _))) (bel_of hq1)
  clear hq hq1
  replace O69 := O69.bel hx
  replace hb := hb.trans hx
  clear hx
  go_wp2_with (fail)
  refine (order_lit A69 c69 (fullL 64) 0 1 L64 0 HO.out _ (by decide) (by decide) (O69.sl.bel (by (try simp only [ext_ext]); repeat (first | exact Bel.refl _ | assumption | refine bel_and ?_ _ | refine bel_drews ?_ _ | refine Bel.ext ?_ _ | refine Bel.alloc ?_ _ | refine Bel.drewN ?_ _))) O69.nilc (by rw [full_len]; decide)).mono ?_
  rintro e W69 ⟨A70, c70, rfl, hq⟩
  have hq1 := own_split hq
  have hx : Bel W68 W69 := Bel.trans (show Bel W68 _ from (by (try simp only [ext_ext]); repeat (first | exact Bel.refl _ | assumption | refine bel_and ?_ _ | refine bel_drews ?_ _ | refine Bel.ext ?_ _ | refine Bel.alloc ?_ _ | refine Bel.drewN ?_ _))) (bel_of hq1)
  have O70 := own_here hq
  clear hq hq1
  replace hb := hb.trans hx
  clear hx O69
  go_wp2_with (fail)
  refine (full_any 64 _ (by decide)).mono ?_
  rintro e W70 ⟨A71, c71, rfl, hq⟩
  have hq1 := own_split hq
  have hx : Bel W69 W70 := Bel.trans (show Bel W69 _ from (by (try simp only [ext_ext]); repeat (first | exact Bel.refl _ | assumption | refine bel_and ?_ _ | refine bel_drews ?_ _ | refine Bel.ext ?_ _ | refine Bel.alloc ?_ _ | refine Bel.drewN ?_ _))) (bel_of hq1)
  have O71 := own_here hq
  clear hq hq1
  replace O70 := O70.bel hx
  replace hb := hb.trans hx
  clear hx
  go_wp2_with (fail)
  refine (at03l_any 0 _).mono ?_
  rintro e W71 ⟨rfl, hq⟩
  have hq1 := hq
  have hx : Bel W70 W71 := Bel.trans (show Bel W70 _ from (by (try simp only [ext_ext]); repeat (first | exact Bel.refl _ | assumption | refine bel_and ?_ _ | refine bel_drews ?_ _ | refine Bel.ext ?_ _ | refine Bel.alloc ?_ _ | refine Bel.drewN ?_ _))) (bel_of hq1)
  clear hq hq1
  replace O70 := O70.bel hx
  replace O71 := O71.bel hx
  replace hb := hb.trans hx
  clear hx
  go_wp2_with (fail)
  refine (rank_lit A71 c71 (fullL 64) 126 0 1 63 0 full_rank _ (by decide) (by decide) (O71.sl.bel (by (try simp only [ext_ext]); repeat (first | exact Bel.refl _ | assumption | refine bel_and ?_ _ | refine bel_drews ?_ _ | refine Bel.ext ?_ _ | refine Bel.alloc ?_ _ | refine Bel.drewN ?_ _))) O71.nilc (by rw [full_len]; decide)).mono ?_
  rintro e W72 ⟨rfl, hq⟩
  have hq1 := hq
  have hx : Bel W71 W72 := Bel.trans (show Bel W71 _ from (by (try simp only [ext_ext]); repeat (first | exact Bel.refl _ | assumption | refine bel_and ?_ _ | refine bel_drews ?_ _ | refine Bel.ext ?_ _ | refine Bel.alloc ?_ _ | refine Bel.drewN ?_ _))) (bel_of hq1)
  clear hq hq1
  replace O70 := O70.bel hx
  replace hb := hb.trans hx
  clear hx O71
  obtain ⟨g6, rfl, hg6, hg7⟩ := O70.at_ (by rw [HLL.out]; decide)
  have q0 := own_int O70 HL0.out
  have q0l := O70.ats.2
  have q1 : ((L64.length : Int) == 64) = true := by rw [HLL.out]; rfl
  have q2 : (0 : Int) < (L64.length : Int) := by rw [HLL.out]; decide
  go_wp2_with (fail)
  refine (alive03_any _).mono ?_
  rintro e W73 ⟨rfl, hq⟩
  have hq1 := hq
  have hx : Bel W72 W73 := Bel.trans (show Bel W72 _ from (by (try simp only [ext_ext]); repeat (first | exact Bel.refl _ | assumption | refine bel_and ?_ _ | refine bel_drews ?_ _ | refine Bel.ext ?_ _ | refine Bel.alloc ?_ _ | refine Bel.drewN ?_ _))) (bel_of hq1)
  clear hq hq1
  replace hb := hb.trans hx
  clear hx q0 q0l q1 q2 O70
  go_wp2
  (go_ret; exact ⟨ret_bool (by rfl), ext_of (by (try simp only [ext_ext]); repeat (first | exact Bel.refl _ | assumption | refine bel_and ?_ _ | refine bel_drews ?_ _ | refine Bel.ext ?_ _ | refine Bel.alloc ?_ _ | refine Bel.drewN ?_ _))⟩)
set_option maxRecDepth 100000 in
theorem fieldNames_lifted (os : Os) (started : os.Started) (H : Type) (enc : TypeId × Value → H) :
    ReturnsInHanded {} Try.checked os 14 .any (Rows.fieldNamesSpec.pre6 enc Try.prog Try.f14 Rows.fieldNamesRow.domain false) (Rows.fieldNamesSpec.post enc Try.prog Try.f14 false true false false) := by
  refine returnsInHanded_of_change (C := Try.checked) ownKnob_ started (by kernel_rfl) Try.func14
    (ChangeSpec.witness6 (enc := enc) (C := Try.checked) false ⟨#[], #[], []⟩ 8 (by kernel_rfl) (by kernel_rfl) (by kernel_rfl) (by kernel_rfl)) ?_
  intro W base args ds gs before hval0 hW hcnd _
  have hval : ∀ (j : Nat) t v, Try.f14.params[j]? = some t → args[j]? = some v → Value.okWide Try.prog W .any base t v := hval0
  have hW' := hW
  obtain ⟨p, q, hA0, hV, rfl, hfz, hnd⟩ := hW
  have hA : DataW.TrodAll enc Try.prog W 0 (fun _ => true) true Try.f14.params.toList args.toList ds p := hA0
  rw [Try.params14] at hA hval
  obtain ⟨hargs, rfl, rfl⟩ := trodAll_nil hA
  obtain rfl : args = #[] := by cases args; simp_all
  obtain ⟨rfl, rfl⟩ := trodVars_none hV
  clear hA0 hval0
  refine (fnames_walk _).mono fun e W' ⟨he, hx⟩ => ?_
  have bel : Below W.heap.size W W' := (bel_of hx).toBelow
  subst he
  exact ⟨_, rfl, _, _, _, [], _, [], hW', trodAll_mk1 (shut_bool Try.underlying4 _), trodAll_mk0, rfl, bel.frame _, fun h => by cases h⟩
theorem fieldNames_over : Rows.fieldNamesRow.holds Try.pinned (OpenSpec.ofChange Rows.fieldNamesSpec) :=
  OpenClaim.holds_of_wide 14 Try.f14 rfl rfl rfl rfl rfl rfl rfl ⟨rfl, rfl, rfl, rfl, rfl⟩ rfl rfl rfl rfl rfl (by kernel_rfl) Try.func14 (by kernel_rfl)
    (of_decide_eq_true (by kernel_rfl)) (by unfold Func.isWrapper; rw [if_neg (of_decide_eq_false (by kernel_rfl))]; exact ⟨rfl, rfl⟩)
    (fun os started H enc _ => fieldNames_lifted os started H enc)
/-- The statement. -/
theorem fieldNames_holds : Rows.FieldNamesSaid := fieldNames_over
end Go.Proofs.Ytkcpnclgcmnlcaa
