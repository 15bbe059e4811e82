/- For every field and point: a point that is put in and taken out leaves the field as it was, and what was put in or changed is found: the statement FieldBack. (Printed by genfback.py.) -/
import Derived.Test.YtkcpnclgcmnlcaaFAl
import Derived.Test.YtkcpnclgcmnlcaaArgsF
set_option linter.unusedSimpArgs false
set_option linter.unusedVariables false
namespace Go.Proofs.Ytkcpnclgcmnlcaa
open Go.ChangeShapes Go.WideShapes Go.ChangeAt Go.RowKit Go.Pel
attribute [local go_sem ↓] equal_pt
set_option maxRecDepth 10000 in
set_option maxHeartbeats 4000000 in
theorem fback_great (A : Option Addr) (c : Nat) (l : List Pt) (p : Pt) (w : World) (hs : Sl w 3 A l.length c (vp l)) (hn : A = none → c = 0) (hg : great l.length = true) :
    Calls Try.prog 13 #[.agg #[.slice A l.length c], .agg #[.int .i64 p.id, .int .i64 p.a, .int .i64 p.b]] w fun e w' => e = .returned (.bool true) ∧ ∃ x, w' = ext w x := by
  have S0 := hs
  have HN := Lib.hid hn
  have HG := Lib.hid hg
  clear hs hn hg
  go_enter Try.func13, Try.ntmps13
  go_wp2_with (fail)
  refine (great_lit A l.length c true HG.out _).mono ?_
  rintro e W1 ⟨rfl, hq⟩
  have hq1 := hq
  have hx : Bel w W1 := Bel.trans (show Bel w _ from (by (try simp only [ext_ext]); repeat (first | exact Bel.refl _ | assumption | refine bel_and ?_ _ | refine bel_drews ?_ _ | refine Bel.ext ?_ _ | refine Bel.alloc ?_ _ | refine Bel.drewN ?_ _))) (bel_of hq1)
  have hxb : Bel ((w.alloc (.cells #[.slice A l.length c] 24)).alloc (.cells #[.int .i64 p.id, .int .i64 p.a, .int .i64 p.b] 26)) W1 := by obtain ⟨y, hy⟩ := hq1; rw [hy]; exact (by (try simp only [ext_ext]); repeat (first | exact Bel.refl _ | assumption | refine bel_and ?_ _ | refine bel_drews ?_ _ | refine Bel.ext ?_ _ | refine Bel.alloc ?_ _ | refine Bel.drewN ?_ _))
  clear hxb
  clear hq hq1
  have hb := hx
  clear hx S0
  go_wp2_with (fail)
  refine (alive03_any _).mono ?_
  rintro e W2 ⟨rfl, hq⟩
  have hq1 := hq
  have hx : Bel W1 W2 := Bel.trans (show Bel W1 _ from (by (try simp only [ext_ext]); repeat (first | exact Bel.refl _ | assumption | refine bel_and ?_ _ | refine bel_drews ?_ _ | refine Bel.ext ?_ _ | refine Bel.alloc ?_ _ | refine Bel.drewN ?_ _))) (bel_of hq1)
  clear hq hq1
  replace hb := hb.trans hx
  clear hx
  go_wp2
  (go_ret; exact ⟨ret_bool (by rfl), ext_of (by (try simp only [ext_ext]); repeat (first | exact Bel.refl _ | assumption | refine bel_and ?_ _ | refine bel_drews ?_ _ | refine Bel.ext ?_ _ | refine Bel.alloc ?_ _ | refine Bel.drewN ?_ _))⟩)
set_option maxRecDepth 10000 in
set_option maxHeartbeats 4000000 in
theorem fback_bad (A : Option Addr) (c : Nat) (l : List Pt) (p : Pt) (w : World) (hs : Sl w 3 A l.length c (vp l)) (hn : A = none → c = 0) (hg : great l.length = false) (v : Int) (h0 : fieldChk l = v) (hv : (v != 0) = true) :
    Calls Try.prog 13 #[.agg #[.slice A l.length c], .agg #[.int .i64 p.id, .int .i64 p.a, .int .i64 p.b]] w fun e w' => e = .returned (.bool true) ∧ ∃ x, w' = ext w x := by
  have S0 := hs
  have HN := Lib.hid hn
  have HG := Lib.hid hg
  have H0 := Lib.hid h0
  clear hs hn hg h0
  go_enter Try.func13, Try.ntmps13
  go_wp2_with (fail)
  refine (great_lit A l.length c false HG.out _).mono ?_
  rintro e W1 ⟨rfl, hq⟩
  have hq1 := hq
  have hx : Bel w W1 := Bel.trans (show Bel w _ from (by (try simp only [ext_ext]); repeat (first | exact Bel.refl _ | assumption | refine bel_and ?_ _ | refine bel_drews ?_ _ | refine Bel.ext ?_ _ | refine Bel.alloc ?_ _ | refine Bel.drewN ?_ _))) (bel_of hq1)
  have hxb : Bel ((w.alloc (.cells #[.slice A l.length c] 24)).alloc (.cells #[.int .i64 p.id, .int .i64 p.a, .int .i64 p.b] 26)) W1 := by obtain ⟨y, hy⟩ := hq1; rw [hy]; exact (by (try simp only [ext_ext]); repeat (first | exact Bel.refl _ | assumption | refine bel_and ?_ _ | refine bel_drews ?_ _ | refine Bel.ext ?_ _ | refine Bel.alloc ?_ _ | refine Bel.drewN ?_ _))
  have B1 : Box W1 (w.heap.size) #[.slice A l.length c] := Box.new (W := w) (e := 24) (Bel.trans (by (try simp only [ext_ext]); repeat (first | exact Bel.refl _ | assumption | refine bel_and ?_ _ | refine bel_drews ?_ _ | refine Bel.ext ?_ _ | refine Bel.alloc ?_ _ | refine Bel.drewN ?_ _)) hxb) (by rfl)
  clear hxb
  clear hq hq1
  replace S0 := S0.bel hx
  have hb := hx
  clear hx
  have xlB1 := B1.lt
  have xeB1_0 := B1.eq 0 (.slice A l.length c) rfl
  go_wp2_with (fail)
  refine (ref3chk_lit A c l v H0.out _ (S0.bel (by (try simp only [ext_ext]); repeat (first | exact Bel.refl _ | assumption | refine bel_and ?_ _ | refine bel_drews ?_ _ | refine Bel.ext ?_ _ | refine Bel.alloc ?_ _ | refine Bel.drewN ?_ _)))).mono ?_
  rintro e W2 ⟨rfl, hq⟩
  have hq1 := hq
  have hx : Bel W1 W2 := Bel.trans (show Bel W1 _ from (by (try simp only [ext_ext]); repeat (first | exact Bel.refl _ | assumption | refine bel_and ?_ _ | refine bel_drews ?_ _ | refine Bel.ext ?_ _ | refine Bel.alloc ?_ _ | refine Bel.drewN ?_ _))) (bel_of hq1)
  clear hq hq1
  replace hb := hb.trans hx
  clear hx xlB1 xeB1_0 S0 B1
  go_wp2_with (fail)
  refine (alive03_any _).mono ?_
  rintro e W3 ⟨rfl, hq⟩
  have hq1 := hq
  have hx : Bel W2 W3 := Bel.trans (show Bel W2 _ from (by (try simp only [ext_ext]); repeat (first | exact Bel.refl _ | assumption | refine bel_and ?_ _ | refine bel_drews ?_ _ | refine Bel.ext ?_ _ | refine Bel.alloc ?_ _ | refine Bel.drewN ?_ _))) (bel_of hq1)
  clear hq hq1
  replace hb := hb.trans hx
  clear hx
  go_wp2
  (go_ret; exact ⟨ret_bool (by rfl), ext_of (by (try simp only [ext_ext]); repeat (first | exact Bel.refl _ | assumption | refine bel_and ?_ _ | refine bel_drews ?_ _ | refine Bel.ext ?_ _ | refine Bel.alloc ?_ _ | refine Bel.drewN ?_ _))⟩)
set_option maxRecDepth 10000 in
set_option maxHeartbeats 4000000 in
theorem fback_pt (A : Option Addr) (c : Nat) (l : List Pt) (p : Pt) (w : World) (hs : Sl w 3 A l.length c (vp l)) (hn : A = none → c = 0) (hg : great l.length = false) (h0 : fieldChk l = 0) (v : Int) (hp : p.chk = v) (hv : (v != 0) = true) :
    Calls Try.prog 13 #[.agg #[.slice A l.length c], .agg #[.int .i64 p.id, .int .i64 p.a, .int .i64 p.b]] w fun e w' => e = .returned (.bool true) ∧ ∃ x, w' = ext w x := by
  have S0 := hs
  have HN := Lib.hid hn
  have HG := Lib.hid hg
  have H0 := Lib.hid h0
  have HP := Lib.hid hp
  clear hs hn hg h0 hp
  go_enter Try.func13, Try.ntmps13
  go_wp2_with (fail)
  refine (great_lit A l.length c false HG.out _).mono ?_
  rintro e W1 ⟨rfl, hq⟩
  have hq1 := hq
  have hx : Bel w W1 := Bel.trans (show Bel w _ from (by (try simp only [ext_ext]); repeat (first | exact Bel.refl _ | assumption | refine bel_and ?_ _ | refine bel_drews ?_ _ | refine Bel.ext ?_ _ | refine Bel.alloc ?_ _ | refine Bel.drewN ?_ _))) (bel_of hq1)
  have hxb : Bel ((w.alloc (.cells #[.slice A l.length c] 24)).alloc (.cells #[.int .i64 p.id, .int .i64 p.a, .int .i64 p.b] 26)) W1 := by obtain ⟨y, hy⟩ := hq1; rw [hy]; exact (by (try simp only [ext_ext]); repeat (first | exact Bel.refl _ | assumption | refine bel_and ?_ _ | refine bel_drews ?_ _ | refine Bel.ext ?_ _ | refine Bel.alloc ?_ _ | refine Bel.drewN ?_ _))
  have B1 : Box W1 (w.heap.size) #[.slice A l.length c] := Box.new (W := w) (e := 24) (Bel.trans (by (try simp only [ext_ext]); repeat (first | exact Bel.refl _ | assumption | refine bel_and ?_ _ | refine bel_drews ?_ _ | refine Bel.ext ?_ _ | refine Bel.alloc ?_ _ | refine Bel.drewN ?_ _)) hxb) (by rfl)
  have B2 : Box W1 (w.heap.size + 1) #[.int .i64 p.id, .int .i64 p.a, .int .i64 p.b] := Box.new (W := (w.alloc (.cells #[.slice A l.length c] 24))) (e := 26) (Bel.trans (by (try simp only [ext_ext]); repeat (first | exact Bel.refl _ | assumption | refine bel_and ?_ _ | refine bel_drews ?_ _ | refine Bel.ext ?_ _ | refine Bel.alloc ?_ _ | refine Bel.drewN ?_ _)) hxb) (by simp)
  clear hxb
  clear hq hq1
  replace S0 := S0.bel hx
  have hb := hx
  clear hx
  have xlB1 := B1.lt
  have xeB1_0 := B1.eq 0 (.slice A l.length c) rfl
  go_wp2_with (fail)
  refine (ref3chk_lit A c l 0 H0.out _ (S0.bel (by (try simp only [ext_ext]); repeat (first | exact Bel.refl _ | assumption | refine bel_and ?_ _ | refine bel_drews ?_ _ | refine Bel.ext ?_ _ | refine Bel.alloc ?_ _ | refine Bel.drewN ?_ _)))).mono ?_
  rintro e W2 ⟨rfl, hq⟩
  have hq1 := hq
  have hx : Bel W1 W2 := Bel.trans (show Bel W1 _ from (by (try simp only [ext_ext]); repeat (first | exact Bel.refl _ | assumption | refine bel_and ?_ _ | refine bel_drews ?_ _ | refine Bel.ext ?_ _ | refine Bel.alloc ?_ _ | refine Bel.drewN ?_ _))) (bel_of hq1)
  clear hq hq1
  replace B2 := B2.bel hx
  replace hb := hb.trans hx
  clear hx xlB1 xeB1_0 S0 B1
  have xlB2 := B2.lt
  have xeB2_0 := B2.eq 0 (.int .i64 p.id) rfl
  have xeB2_1 := B2.eq 1 (.int .i64 p.a) rfl
  have xeB2_2 := B2.eq 2 (.int .i64 p.b) rfl
  go_wp2_with (fail)
  refine (pchk2_lit p v HP.out _).mono ?_
  rintro e W3 ⟨rfl, hq⟩
  have hq1 := hq
  have hx : Bel W2 W3 := Bel.trans (show Bel W2 _ from (by (try simp only [ext_ext]); repeat (first | exact Bel.refl _ | assumption | refine bel_and ?_ _ | refine bel_drews ?_ _ | refine Bel.ext ?_ _ | refine Bel.alloc ?_ _ | refine Bel.drewN ?_ _))) (bel_of hq1)
  clear hq hq1
  replace hb := hb.trans hx
  clear hx xlB2 xeB2_0 xeB2_1 xeB2_2 B2
  go_wp2_with (fail)
  refine (alive03_any _).mono ?_
  rintro e W4 ⟨rfl, hq⟩
  have hq1 := hq
  have hx : Bel W3 W4 := Bel.trans (show Bel W3 _ from (by (try simp only [ext_ext]); repeat (first | exact Bel.refl _ | assumption | refine bel_and ?_ _ | refine bel_drews ?_ _ | refine Bel.ext ?_ _ | refine Bel.alloc ?_ _ | refine Bel.drewN ?_ _))) (bel_of hq1)
  clear hq hq1
  replace hb := hb.trans hx
  clear hx
  go_wp2
  (go_ret; exact ⟨ret_bool (by rfl), ext_of (by (try simp only [ext_ext]); repeat (first | exact Bel.refl _ | assumption | refine bel_and ?_ _ | refine bel_drews ?_ _ | refine Bel.ext ?_ _ | refine Bel.alloc ?_ _ | refine Bel.drewN ?_ _))⟩)
set_option maxRecDepth 10000 in
set_option maxHeartbeats 4000000 in
theorem fback_there (A : Option Addr) (c : Nat) (l : List Pt) (p : Pt) (w : World) (hs : Sl w 3 A l.length c (vp l)) (hn : A = none → c = 0) (hg : great l.length = false) (h0 : fieldChk l = 0) (hp : p.chk = 0) (hb : hasB l p.id = true) :
    Calls Try.prog 13 #[.agg #[.slice A l.length c], .agg #[.int .i64 p.id, .int .i64 p.a, .int .i64 p.b]] w fun e w' => e = .returned (.bool true) ∧ ∃ x, w' = ext w x := by
  have S0 := hs
  have HN := Lib.hid hn
  have HG := Lib.hid hg
  have H0 := Lib.hid h0
  have HP := Lib.hid hp
  have HL : Hid (l.length ≤ 64) := Lib.hid (fieldChk_zero h0).1
  obtain ⟨q, hq, he⟩ := hasB_ex hb
  obtain ⟨k, hk⟩ := List.mem_iff_getElem?.1 hq
  obtain ⟨G, hG⟩ : ∃ G, l.set k p = G := ⟨_, rfl⟩
  have E1 : Hid (fieldFind l p.id = (q, 0)) := Lib.hid (by rw [← he]; exact find_at h0 hk)
  have E2 : Hid (fieldChange l p = (G, 0)) := Lib.hid (by rw [← hG]; exact change_ok h0 hk hp he.symm)
  have hG0 : fieldChk G = 0 := by rw [← hG]; exact set_ok h0 hk hp he.symm
  have hGk : G[k]? = some p := by rw [← hG]; exact set_get hk
  have E3 : Hid (fieldFind G p.id = (p, 0)) := Lib.hid (find_at hG0 hGk)
  have E4 : Hid (fieldChange G q = (l, 0)) := Lib.hid (by rw [change_ok hG0 hGk ((fieldChk_zero h0).2.1 q hq) he, ← hG, set_back hk])
  have E5 : Hid (fieldPut l p = ([], 14)) := Lib.hid (put_twice h0 hq hp he.symm)
  have hGl : G.length = l.length := by rw [← hG, List.length_set]
  have z0 : ((G.length : Int) == (l.length : Int)) = true := by rw [hGl]; simp
  have heq := eqP_yes p
  clear hs hn hg h0 hp hb hq he hk hG hG0 hGk hGl
  go_enter Try.func13, Try.ntmps13
  go_wp2_with (fail)
  refine (great_lit A l.length c false HG.out _).mono ?_
  rintro e W1 ⟨rfl, hq⟩
  have hq1 := hq
  have hx : Bel w W1 := Bel.trans (show Bel w _ from (by (try simp only [ext_ext]); repeat (first | exact Bel.refl _ | assumption | refine bel_and ?_ _ | refine bel_drews ?_ _ | refine Bel.ext ?_ _ | refine Bel.alloc ?_ _ | refine Bel.drewN ?_ _))) (bel_of hq1)
  have hxb : Bel ((w.alloc (.cells #[.slice A l.length c] 24)).alloc (.cells #[.int .i64 p.id, .int .i64 p.a, .int .i64 p.b] 26)) W1 := by obtain ⟨y, hy⟩ := hq1; rw [hy]; exact (by (try simp only [ext_ext]); repeat (first | exact Bel.refl _ | assumption | refine bel_and ?_ _ | refine bel_drews ?_ _ | refine Bel.ext ?_ _ | refine Bel.alloc ?_ _ | refine Bel.drewN ?_ _))
  have B1 : Box W1 (w.heap.size) #[.slice A l.length c] := Box.new (W := w) (e := 24) (Bel.trans (by (try simp only [ext_ext]); repeat (first | exact Bel.refl _ | assumption | refine bel_and ?_ _ | refine bel_drews ?_ _ | refine Bel.ext ?_ _ | refine Bel.alloc ?_ _ | refine Bel.drewN ?_ _)) hxb) (by rfl)
  have B2 : Box W1 (w.heap.size + 1) #[.int .i64 p.id, .int .i64 p.a, .int .i64 p.b] := Box.new (W := (w.alloc (.cells #[.slice A l.length c] 24))) (e := 26) (Bel.trans (by (try simp only [ext_ext]); repeat (first | exact Bel.refl _ | assumption | refine bel_and ?_ _ | refine bel_drews ?_ _ | refine Bel.ext ?_ _ | refine Bel.alloc ?_ _ | refine Bel.drewN ?_ _)) hxb) (by simp)
  clear hxb
  clear hq hq1
  replace S0 := S0.bel hx
  have hb := hx
  clear hx
  have xlB1 := B1.lt
  have xeB1_0 := B1.eq 0 (.slice A l.length c) rfl
  go_wp2_with (fail)
  refine (ref3chk_lit A c l 0 H0.out _ (S0.bel (by (try simp only [ext_ext]); repeat (first | exact Bel.refl _ | assumption | refine bel_and ?_ _ | refine bel_drews ?_ _ | refine Bel.ext ?_ _ | refine Bel.alloc ?_ _ | refine Bel.drewN ?_ _)))).mono ?_
  rintro e W2 ⟨rfl, hq⟩
  have hq1 := hq
  have hx : Bel W1 W2 := Bel.trans (show Bel W1 _ from (by (try simp only [ext_ext]); repeat (first | exact Bel.refl _ | assumption | refine bel_and ?_ _ | refine bel_drews ?_ _ | refine Bel.ext ?_ _ | refine Bel.alloc ?_ _ | refine Bel.drewN ?_ _))) (bel_of hq1)
  clear hq hq1
  replace S0 := S0.bel hx
  replace B1 := B1.bel hx
  replace B2 := B2.bel hx
  replace hb := hb.trans hx
  clear hx xlB1 xeB1_0
  have xlB2 := B2.lt
  have xeB2_0 := B2.eq 0 (.int .i64 p.id) rfl
  have xeB2_1 := B2.eq 1 (.int .i64 p.a) rfl
  have xeB2_2 := B2.eq 2 (.int .i64 p.b) rfl
  go_wp2_with (fail)
  refine (pchk2_lit p 0 HP.out _).mono ?_
  rintro e W3 ⟨rfl, hq⟩
  have hq1 := hq
  have hx : Bel W2 W3 := Bel.trans (show Bel W2 _ from (by (try simp only [ext_ext]); repeat (first | exact Bel.refl _ | assumption | refine bel_and ?_ _ | refine bel_drews ?_ _ | refine Bel.ext ?_ _ | refine Bel.alloc ?_ _ | refine Bel.drewN ?_ _))) (bel_of hq1)
  clear hq hq1
  replace S0 := S0.bel hx
  replace B1 := B1.bel hx
  replace B2 := B2.bel hx
  replace hb := hb.trans hx
  clear hx xlB2 xeB2_0 xeB2_1 xeB2_2
  have xlB1 := B1.lt
  have xeB1_0 := B1.eq 0 (.slice A l.length c) rfl
  have xlB2 := B2.lt
  have xeB2_0 := B2.eq 0 (.int .i64 p.id) rfl
  have xeB2_1 := B2.eq 1 (.int .i64 p.a) rfl
  have xeB2_2 := B2.eq 2 (.int .i64 p.b) rfl
  go_wp2_with (fail)
  refine (find_lit A c l p.id q 0 E1.out _ (S0.bel (by (try simp only [ext_ext]); repeat (first | exact Bel.refl _ | assumption | refine bel_and ?_ _ | refine bel_drews ?_ _ | refine Bel.ext ?_ _ | refine Bel.alloc ?_ _ | refine Bel.drewN ?_ _)))).mono ?_
  rintro e W4 ⟨rfl, hq⟩
  have hq1 := hq
  have hx : Bel W3 W4 := Bel.trans (show Bel W3 _ from (by (try simp only [ext_ext]); repeat (first | exact Bel.refl _ | assumption | refine bel_and ?_ _ | refine bel_drews ?_ _ | refine Bel.ext ?_ _ | refine Bel.alloc ?_ _ | refine Bel.drewN ?_ _))) (bel_of hq1)
  clear hq hq1
  replace S0 := S0.bel hx
  replace B1 := B1.bel hx
  replace B2 := B2.bel hx
  replace hb := hb.trans hx
  clear hx xlB1 xeB1_0 xlB2 xeB2_0 xeB2_1 xeB2_2
  have xlB1 := B1.lt
  have xeB1_0 := B1.eq 0 (.slice A l.length c) rfl
  have xlB2 := B2.lt
  have xeB2_0 := B2.eq 0 (.int .i64 p.id) rfl
  have xeB2_1 := B2.eq 1 (.int .i64 p.a) rfl
  have xeB2_2 := B2.eq 2 (.int .i64 p.b) rfl
  go_wp2_with (fail)
  refine (change_lit A c l p G 0 E2.out _ (S0.bel (by (try simp only [ext_ext]); repeat (first | exact Bel.refl _ | assumption | refine bel_and ?_ _ | refine bel_drews ?_ _ | refine Bel.ext ?_ _ | refine Bel.alloc ?_ _ | refine Bel.drewN ?_ _))) HN.out).mono ?_
  rintro e W5 ⟨A4, c4, rfl, hq⟩
  have hq1 := own_split hq
  have hx : Bel W4 W5 := Bel.trans (show Bel W4 _ from (by (try simp only [ext_ext]); repeat (first | exact Bel.refl _ | assumption | refine bel_and ?_ _ | refine bel_drews ?_ _ | refine Bel.ext ?_ _ | refine Bel.alloc ?_ _ | refine Bel.drewN ?_ _))) (bel_of hq1)
  have hxb : Bel (W4.alloc (.cells #[.int .i64 q.id, .int .i64 q.a, .int .i64 q.b] 26)) W5 := by obtain ⟨y, hy⟩ := hq1; rw [hy]; exact (by (try simp only [ext_ext]); repeat (first | exact Bel.refl _ | assumption | refine bel_and ?_ _ | refine bel_drews ?_ _ | refine Bel.ext ?_ _ | refine Bel.alloc ?_ _ | refine Bel.drewN ?_ _))
  have B3 : Box W5 (W4.heap.size) #[.int .i64 q.id, .int .i64 q.a, .int .i64 q.b] := Box.new (W := W4) (e := 26) (Bel.trans (by (try simp only [ext_ext]); repeat (first | exact Bel.refl _ | assumption | refine bel_and ?_ _ | refine bel_drews ?_ _ | refine Bel.ext ?_ _ | refine Bel.alloc ?_ _ | refine Bel.drewN ?_ _)) hxb) (by rfl)
  clear hxb
  have O4 := own_here hq
  clear hq hq1
  replace S0 := S0.bel hx
  replace B1 := B1.bel hx
  replace B2 := B2.bel hx
  replace hb := hb.trans hx
  clear hx xlB1 xeB1_0 xlB2 xeB2_0 xeB2_1 xeB2_2
  have xlB2 := B2.lt
  have xeB2_0 := B2.eq 0 (.int .i64 p.id) rfl
  have xeB2_1 := B2.eq 1 (.int .i64 p.a) rfl
  have xeB2_2 := B2.eq 2 (.int .i64 p.b) rfl
  go_wp2_with (fail)
  refine (find_lit A4 c4 G p.id p 0 E3.out _ (O4.sl.bel (by (try simp only [ext_ext]); repeat (first | exact Bel.refl _ | assumption | refine bel_and ?_ _ | refine bel_drews ?_ _ | refine Bel.ext ?_ _ | refine Bel.alloc ?_ _ | refine Bel.drewN ?_ _)))).mono ?_
  rintro e W6 ⟨rfl, hq⟩
  have hq1 := hq
  have hx : Bel W5 W6 := Bel.trans (show Bel W5 _ from (by (try simp only [ext_ext]); repeat (first | exact Bel.refl _ | assumption | refine bel_and ?_ _ | refine bel_drews ?_ _ | refine Bel.ext ?_ _ | refine Bel.alloc ?_ _ | refine Bel.drewN ?_ _))) (bel_of hq1)
  have hxb : Bel (W5.alloc (.cells #[.slice A4 G.length c4] 24)) W6 := by obtain ⟨y, hy⟩ := hq1; rw [hy]; exact (by (try simp only [ext_ext]); repeat (first | exact Bel.refl _ | assumption | refine bel_and ?_ _ | refine bel_drews ?_ _ | refine Bel.ext ?_ _ | refine Bel.alloc ?_ _ | refine Bel.drewN ?_ _))
  have B5 : Box W6 (W5.heap.size) #[.slice A4 G.length c4] := Box.new (W := W5) (e := 24) (Bel.trans (by (try simp only [ext_ext]); repeat (first | exact Bel.refl _ | assumption | refine bel_and ?_ _ | refine bel_drews ?_ _ | refine Bel.ext ?_ _ | refine Bel.alloc ?_ _ | refine Bel.drewN ?_ _)) hxb) (by rfl)
  clear hxb
  clear hq hq1
  replace S0 := S0.bel hx
  replace B1 := B1.bel hx
  replace B2 := B2.bel hx
  replace B3 := B3.bel hx
  replace O4 := O4.bel hx
  replace hb := hb.trans hx
  clear hx xlB2 xeB2_0 xeB2_1 xeB2_2
  have xlB5 := B5.lt
  have xeB5_0 := B5.eq 0 (.slice A4 G.length c4) rfl
  have xlB3 := B3.lt
  have xeB3_0 := B3.eq 0 (.int .i64 q.id) rfl
  have xeB3_1 := B3.eq 1 (.int .i64 q.a) rfl
  have xeB3_2 := B3.eq 2 (.int .i64 q.b) rfl
  go_wp2_with (fail)
  refine (change_lit A4 c4 G q l 0 E4.out _ (O4.sl.bel (by (try simp only [ext_ext]); repeat (first | exact Bel.refl _ | assumption | refine bel_and ?_ _ | refine bel_drews ?_ _ | refine Bel.ext ?_ _ | refine Bel.alloc ?_ _ | refine Bel.drewN ?_ _))) O4.nilc).mono ?_
  rintro e W7 ⟨A7, c7, rfl, hq⟩
  have hq1 := own_split hq
  have hx : Bel W6 W7 := Bel.trans (show Bel W6 _ from (by (try simp only [ext_ext]); repeat (first | exact Bel.refl _ | assumption | refine bel_and ?_ _ | refine bel_drews ?_ _ | refine Bel.ext ?_ _ | refine Bel.alloc ?_ _ | refine Bel.drewN ?_ _))) (bel_of hq1)
  have hxb : Bel (W6.alloc (.cells #[.int .i64 p.id, .int .i64 p.a, .int .i64 p.b] 26)) W7 := by obtain ⟨y, hy⟩ := hq1; rw [hy]; exact (by (try simp only [ext_ext]); repeat (first | exact Bel.refl _ | assumption | refine bel_and ?_ _ | refine bel_drews ?_ _ | refine Bel.ext ?_ _ | refine Bel.alloc ?_ _ | refine Bel.drewN ?_ _))
  have B6 : Box W7 (W6.heap.size) #[.int .i64 p.id, .int .i64 p.a, .int .i64 p.b] := Box.new (W := W6) (e := 26) (Bel.trans (by (try simp only [ext_ext]); repeat (first | exact Bel.refl _ | assumption | refine bel_and ?_ _ | refine bel_drews ?_ _ | refine Bel.ext ?_ _ | refine Bel.alloc ?_ _ | refine Bel.drewN ?_ _)) hxb) (by rfl)
  clear hxb
  have O7 := own_here hq
  clear hq hq1
  replace S0 := S0.bel hx
  replace B1 := B1.bel hx
  replace B2 := B2.bel hx
  replace B5 := B5.bel hx
  replace hb := hb.trans hx
  clear hx xlB5 xeB5_0 xlB3 xeB3_0 xeB3_1 xeB3_2 B3 O4
  have xlB1 := B1.lt
  have xeB1_0 := B1.eq 0 (.slice A l.length c) rfl
  have xlB2 := B2.lt
  have xeB2_0 := B2.eq 0 (.int .i64 p.id) rfl
  have xeB2_1 := B2.eq 1 (.int .i64 p.a) rfl
  have xeB2_2 := B2.eq 2 (.int .i64 p.b) rfl
  go_wp2_with (fail)
  refine (put_lit A c l p ([]) 14 E5.out _ (S0.bel (by (try simp only [ext_ext]); repeat (first | exact Bel.refl _ | assumption | refine bel_and ?_ _ | refine bel_drews ?_ _ | refine Bel.ext ?_ _ | refine Bel.alloc ?_ _ | refine Bel.drewN ?_ _))) HN.out).mono ?_
  rintro e W8 ⟨A9, c9, rfl, hq⟩
  have hq1 := own_split hq
  have hx : Bel W7 W8 := Bel.trans (show Bel W7 _ from (by (try simp only [ext_ext]); repeat (first | exact Bel.refl _ | assumption | refine bel_and ?_ _ | refine bel_drews ?_ _ | refine Bel.ext ?_ _ | refine Bel.alloc ?_ _ | refine Bel.drewN ?_ _))) (bel_of hq1)
  have hxb : Bel (W7.alloc (.cells #[.slice A7 l.length c7] 24)) W8 := by obtain ⟨y, hy⟩ := hq1; rw [hy]; exact (by (try simp only [ext_ext]); repeat (first | exact Bel.refl _ | assumption | refine bel_and ?_ _ | refine bel_drews ?_ _ | refine Bel.ext ?_ _ | refine Bel.alloc ?_ _ | refine Bel.drewN ?_ _))
  have B8 : Box W8 (W7.heap.size) #[.slice A7 l.length c7] := Box.new (W := W7) (e := 24) (Bel.trans (by (try simp only [ext_ext]); repeat (first | exact Bel.refl _ | assumption | refine bel_and ?_ _ | refine bel_drews ?_ _ | refine Bel.ext ?_ _ | refine Bel.alloc ?_ _ | refine Bel.drewN ?_ _)) hxb) (by rfl)
  clear hxb
  clear hq hq1
  replace S0 := S0.bel hx
  replace B1 := B1.bel hx
  replace B2 := B2.bel hx
  replace B5 := B5.bel hx
  replace B6 := B6.bel hx
  replace O7 := O7.bel hx
  replace hb := hb.trans hx
  clear hx xlB1 xeB1_0 xlB2 xeB2_0 xeB2_1 xeB2_2
  have xlB6 := B6.lt
  have xeB6_0 := B6.eq 0 (.int .i64 p.id) rfl
  have xeB6_1 := B6.eq 1 (.int .i64 p.a) rfl
  have xeB6_2 := B6.eq 2 (.int .i64 p.b) rfl
  have xlB2 := B2.lt
  have xeB2_0 := B2.eq 0 (.int .i64 p.id) rfl
  have xeB2_1 := B2.eq 1 (.int .i64 p.a) rfl
  have xeB2_2 := B2.eq 2 (.int .i64 p.b) rfl
  have xlB8 := B8.lt
  have xeB8_0 := B8.eq 0 (.slice A7 l.length c7) rfl
  have xlB1 := B1.lt
  have xeB1_0 := B1.eq 0 (.slice A l.length c) rfl
  go_wp2_with (fail)
  refine (same03_lit A7 A c7 c l l true (decide_eq_true rfl) _ (O7.sl.bel (by (try simp only [ext_ext]); repeat (first | exact Bel.refl _ | assumption | refine bel_and ?_ _ | refine bel_drews ?_ _ | refine Bel.ext ?_ _ | refine Bel.alloc ?_ _ | refine Bel.drewN ?_ _))) (S0.bel (by (try simp only [ext_ext]); repeat (first | exact Bel.refl _ | assumption | refine bel_and ?_ _ | refine bel_drews ?_ _ | refine Bel.ext ?_ _ | refine Bel.alloc ?_ _ | refine Bel.drewN ?_ _))) (by have := HL.out; omega) (by have := HL.out; omega)).mono ?_
  rintro e W9 ⟨rfl, hq⟩
  have hq1 := hq
  have hx : Bel W8 W9 := Bel.trans (show Bel W8 _ from (by (try simp only [ext_ext]); repeat (first | exact Bel.refl _ | assumption | refine bel_and ?_ _ | refine bel_drews ?_ _ | refine Bel.ext ?_ _ | refine Bel.alloc ?_ _ | refine Bel.drewN ?_ _))) (bel_of hq1)
  have hxb : Bel (W8.alloc (.cells #[.slice A9 0 c9] 24)) W9 := by obtain ⟨y, hy⟩ := hq1; rw [hy]; exact (by (try simp only [ext_ext]); repeat (first | exact Bel.refl _ | assumption | refine bel_and ?_ _ | refine bel_drews ?_ _ | refine Bel.ext ?_ _ | refine Bel.alloc ?_ _ | refine Bel.drewN ?_ _))
  clear hxb
  clear hq hq1
  replace B1 := B1.bel hx
  replace B5 := B5.bel hx
  replace hb := hb.trans hx
  clear hx xlB6 xeB6_0 xeB6_1 xeB6_2 xlB2 xeB2_0 xeB2_1 xeB2_2 xlB8 xeB8_0 xlB1 xeB1_0 S0 B2 B6 O7 B8
  have xlB5 := B5.lt
  have xeB5_0 := B5.eq 0 (.slice A4 G.length c4) rfl
  have xlB1 := B1.lt
  have xeB1_0 := B1.eq 0 (.slice A l.length c) rfl
  go_wp2_with (fail)
  refine (alive03_any _).mono ?_
  rintro e W10 ⟨rfl, hq⟩
  have hq1 := hq
  have hx : Bel W9 W10 := Bel.trans (show Bel W9 _ from (by (try simp only [ext_ext]); repeat (first | exact Bel.refl _ | assumption | refine bel_and ?_ _ | refine bel_drews ?_ _ | refine Bel.ext ?_ _ | refine Bel.alloc ?_ _ | refine Bel.drewN ?_ _))) (bel_of hq1)
  clear hq hq1
  replace hb := hb.trans hx
  clear hx xlB5 xeB5_0 xlB1 xeB1_0 B1 B5
  go_wp2
  (go_ret; exact ⟨ret_bool (by rfl), ext_of (by (try simp only [ext_ext]); repeat (first | exact Bel.refl _ | assumption | refine bel_and ?_ _ | refine bel_drews ?_ _ | refine Bel.ext ?_ _ | refine Bel.alloc ?_ _ | refine Bel.drewN ?_ _))⟩)
set_option maxRecDepth 10000 in
set_option maxHeartbeats 4000000 in
theorem fback_full (A : Option Addr) (c : Nat) (l : List Pt) (p : Pt) (w : World) (hs : Sl w 3 A l.length c (vp l)) (hn : A = none → c = 0) (hg : great l.length = false) (h0 : fieldChk l = 0) (hp : p.chk = 0) (hb : hasB l p.id = false) (hl : l.length = 64) :
    Calls Try.prog 13 #[.agg #[.slice A l.length c], .agg #[.int .i64 p.id, .int .i64 p.a, .int .i64 p.b]] w fun e w' => e = .returned (.bool true) ∧ ∃ x, w' = ext w x := by
  have S0 := hs
  have HN := Lib.hid hn
  have HG := Lib.hid hg
  have H0 := Lib.hid h0
  have HP := Lib.hid hp
  have HL : Hid (l.length ≤ 64) := Lib.hid (fieldChk_zero h0).1
  have E1 : Hid (fieldFind l p.id = (Pt.zero, 6)) := Lib.hid (find_none h0 hb)
  have E2 : Hid (fieldPut l p = ([], 18)) := Lib.hid (put_full h0 hp hb hl)
  have z0 : ((l.length : Int) == 64) = true := by rw [hl]; rfl
  clear hs hn hg h0 hp hb hl
  go_enter Try.func13, Try.ntmps13
  go_wp2_with (fail)
  refine (great_lit A l.length c false HG.out _).mono ?_
  rintro e W1 ⟨rfl, hq⟩
  have hq1 := hq
  have hx : Bel w W1 := Bel.trans (show Bel w _ from (by (try simp only [ext_ext]); repeat (first | exact Bel.refl _ | assumption | refine bel_and ?_ _ | refine bel_drews ?_ _ | refine Bel.ext ?_ _ | refine Bel.alloc ?_ _ | refine Bel.drewN ?_ _))) (bel_of hq1)
  have hxb : Bel ((w.alloc (.cells #[.slice A l.length c] 24)).alloc (.cells #[.int .i64 p.id, .int .i64 p.a, .int .i64 p.b] 26)) W1 := by obtain ⟨y, hy⟩ := hq1; rw [hy]; exact (by (try simp only [ext_ext]); repeat (first | exact Bel.refl _ | assumption | refine bel_and ?_ _ | refine bel_drews ?_ _ | refine Bel.ext ?_ _ | refine Bel.alloc ?_ _ | refine Bel.drewN ?_ _))
  have B1 : Box W1 (w.heap.size) #[.slice A l.length c] := Box.new (W := w) (e := 24) (Bel.trans (by (try simp only [ext_ext]); repeat (first | exact Bel.refl _ | assumption | refine bel_and ?_ _ | refine bel_drews ?_ _ | refine Bel.ext ?_ _ | refine Bel.alloc ?_ _ | refine Bel.drewN ?_ _)) hxb) (by rfl)
  have B2 : Box W1 (w.heap.size + 1) #[.int .i64 p.id, .int .i64 p.a, .int .i64 p.b] := Box.new (W := (w.alloc (.cells #[.slice A l.length c] 24))) (e := 26) (Bel.trans (by (try simp only [ext_ext]); repeat (first | exact Bel.refl _ | assumption | refine bel_and ?_ _ | refine bel_drews ?_ _ | refine Bel.ext ?_ _ | refine Bel.alloc ?_ _ | refine Bel.drewN ?_ _)) hxb) (by simp)
  clear hxb
  clear hq hq1
  replace S0 := S0.bel hx
  have hb := hx
  clear hx
  have xlB1 := B1.lt
  have xeB1_0 := B1.eq 0 (.slice A l.length c) rfl
  go_wp2_with (fail)
  refine (ref3chk_lit A c l 0 H0.out _ (S0.bel (by (try simp only [ext_ext]); repeat (first | exact Bel.refl _ | assumption | refine bel_and ?_ _ | refine bel_drews ?_ _ | refine Bel.ext ?_ _ | refine Bel.alloc ?_ _ | refine Bel.drewN ?_ _)))).mono ?_
  rintro e W2 ⟨rfl, hq⟩
  have hq1 := hq
  have hx : Bel W1 W2 := Bel.trans (show Bel W1 _ from (by (try simp only [ext_ext]); repeat (first | exact Bel.refl _ | assumption | refine bel_and ?_ _ | refine bel_drews ?_ _ | refine Bel.ext ?_ _ | refine Bel.alloc ?_ _ | refine Bel.drewN ?_ _))) (bel_of hq1)
  clear hq hq1
  replace S0 := S0.bel hx
  replace B1 := B1.bel hx
  replace B2 := B2.bel hx
  replace hb := hb.trans hx
  clear hx xlB1 xeB1_0
  have xlB2 := B2.lt
  have xeB2_0 := B2.eq 0 (.int .i64 p.id) rfl
  have xeB2_1 := B2.eq 1 (.int .i64 p.a) rfl
  have xeB2_2 := B2.eq 2 (.int .i64 p.b) rfl
  go_wp2_with (fail)
  refine (pchk2_lit p 0 HP.out _).mono ?_
  rintro e W3 ⟨rfl, hq⟩
  have hq1 := hq
  have hx : Bel W2 W3 := Bel.trans (show Bel W2 _ from (by (try simp only [ext_ext]); repeat (first | exact Bel.refl _ | assumption | refine bel_and ?_ _ | refine bel_drews ?_ _ | refine Bel.ext ?_ _ | refine Bel.alloc ?_ _ | refine Bel.drewN ?_ _))) (bel_of hq1)
  clear hq hq1
  replace S0 := S0.bel hx
  replace B1 := B1.bel hx
  replace B2 := B2.bel hx
  replace hb := hb.trans hx
  clear hx xlB2 xeB2_0 xeB2_1 xeB2_2
  have xlB1 := B1.lt
  have xeB1_0 := B1.eq 0 (.slice A l.length c) rfl
  have xlB2 := B2.lt
  have xeB2_0 := B2.eq 0 (.int .i64 p.id) rfl
  have xeB2_1 := B2.eq 1 (.int .i64 p.a) rfl
  have xeB2_2 := B2.eq 2 (.int .i64 p.b) rfl
  go_wp2_with (fail)
  refine (find_lit A c l p.id Pt.zero 6 E1.out _ (S0.bel (by (try simp only [ext_ext]); repeat (first | exact Bel.refl _ | assumption | refine bel_and ?_ _ | refine bel_drews ?_ _ | refine Bel.ext ?_ _ | refine Bel.alloc ?_ _ | refine Bel.drewN ?_ _)))).mono ?_
  rintro e W4 ⟨rfl, hq⟩
  have hq1 := hq
  have hx : Bel W3 W4 := Bel.trans (show Bel W3 _ from (by (try simp only [ext_ext]); repeat (first | exact Bel.refl _ | assumption | refine bel_and ?_ _ | refine bel_drews ?_ _ | refine Bel.ext ?_ _ | refine Bel.alloc ?_ _ | refine Bel.drewN ?_ _))) (bel_of hq1)
  clear hq hq1
  replace S0 := S0.bel hx
  replace B1 := B1.bel hx
  replace B2 := B2.bel hx
  replace hb := hb.trans hx
  clear hx xlB1 xeB1_0 xlB2 xeB2_0 xeB2_1 xeB2_2
  have xlB1 := B1.lt
  have xeB1_0 := B1.eq 0 (.slice A l.length c) rfl
  have xlB2 := B2.lt
  have xeB2_0 := B2.eq 0 (.int .i64 p.id) rfl
  have xeB2_1 := B2.eq 1 (.int .i64 p.a) rfl
  have xeB2_2 := B2.eq 2 (.int .i64 p.b) rfl
  go_wp2_with (fail)
  refine (put_lit A c l p ([]) 18 E2.out _ (S0.bel (by (try simp only [ext_ext]); repeat (first | exact Bel.refl _ | assumption | refine bel_and ?_ _ | refine bel_drews ?_ _ | refine Bel.ext ?_ _ | refine Bel.alloc ?_ _ | refine Bel.drewN ?_ _))) HN.out).mono ?_
  rintro e W5 ⟨A4, c4, rfl, hq⟩
  have hq1 := own_split hq
  have hx : Bel W4 W5 := Bel.trans (show Bel W4 _ from (by (try simp only [ext_ext]); repeat (first | exact Bel.refl _ | assumption | refine bel_and ?_ _ | refine bel_drews ?_ _ | refine Bel.ext ?_ _ | refine Bel.alloc ?_ _ | refine Bel.drewN ?_ _))) (bel_of hq1)
  have hxb : Bel (W4.alloc (.cells #[.int .i64 Pt.zero.id, .int .i64 Pt.zero.a, .int .i64 Pt.zero.b] 26)) W5 := by obtain ⟨y, hy⟩ := hq1; rw [hy]; exact (by (try simp only [ext_ext]); repeat (first | exact Bel.refl _ | assumption | refine bel_and ?_ _ | refine bel_drews ?_ _ | refine Bel.ext ?_ _ | refine Bel.alloc ?_ _ | refine Bel.drewN ?_ _))
  clear hxb
  clear hq hq1
  replace B1 := B1.bel hx
  replace hb := hb.trans hx
  clear hx xlB1 xeB1_0 xlB2 xeB2_0 xeB2_1 xeB2_2 S0 B2
  have xlB1 := B1.lt
  have xeB1_0 := B1.eq 0 (.slice A l.length c) rfl
  go_wp2_with (fail)
  refine (alive03_any _).mono ?_
  rintro e W6 ⟨rfl, hq⟩
  have hq1 := hq
  have hx : Bel W5 W6 := Bel.trans (show Bel W5 _ from (by (try simp only [ext_ext]); repeat (first | exact Bel.refl _ | assumption | refine bel_and ?_ _ | refine bel_drews ?_ _ | refine Bel.ext ?_ _ | refine Bel.alloc ?_ _ | refine Bel.drewN ?_ _))) (bel_of hq1)
  have hxb : Bel (W5.alloc (.cells #[.slice A4 0 c4] 24)) W6 := by obtain ⟨y, hy⟩ := hq1; rw [hy]; exact (by (try simp only [ext_ext]); repeat (first | exact Bel.refl _ | assumption | refine bel_and ?_ _ | refine bel_drews ?_ _ | refine Bel.ext ?_ _ | refine Bel.alloc ?_ _ | refine Bel.drewN ?_ _))
  have B5 : Box W6 (W5.heap.size) #[.slice A4 0 c4] := Box.new (W := W5) (e := 24) (Bel.trans (by (try simp only [ext_ext]); repeat (first | exact Bel.refl _ | assumption | refine bel_and ?_ _ | refine bel_drews ?_ _ | refine Bel.ext ?_ _ | refine Bel.alloc ?_ _ | refine Bel.drewN ?_ _)) hxb) (by rfl)
  clear hxb
  clear hq hq1
  replace hb := hb.trans hx
  clear hx xlB1 xeB1_0 B1
  go_wp2
  (go_ret; exact ⟨ret_bool (by rfl), ext_of (by (try simp only [ext_ext]); repeat (first | exact Bel.refl _ | assumption | refine bel_and ?_ _ | refine bel_drews ?_ _ | refine Bel.ext ?_ _ | refine Bel.alloc ?_ _ | refine Bel.drewN ?_ _))⟩)
set_option maxRecDepth 10000 in
set_option maxHeartbeats 4000000 in
theorem fback_put (A : Option Addr) (c : Nat) (l : List Pt) (p : Pt) (w : World) (hs : Sl w 3 A l.length c (vp l)) (hn : A = none → c = 0) (hg : great l.length = false) (h0 : fieldChk l = 0) (hp : p.chk = 0) (hb : hasB l p.id = false) (hl : l.length ≠ 64) :
    Calls Try.prog 13 #[.agg #[.slice A l.length c], .agg #[.int .i64 p.id, .int .i64 p.a, .int .i64 p.b]] w fun e w' => e = .returned (.bool true) ∧ ∃ x, w' = ext w x := by
  have S0 := hs
  have HN := Lib.hid hn
  have HG := Lib.hid hg
  have H0 := Lib.hid h0
  have HP := Lib.hid hp
  have HL : Hid (l.length ≤ 64) := Lib.hid (fieldChk_zero h0).1
  obtain ⟨G, hG⟩ : ∃ G, insP l p = G := ⟨_, rfl⟩
  have E1 : Hid (fieldFind l p.id = (Pt.zero, 6)) := Lib.hid (find_none h0 hb)
  have E2 : Hid (fieldPut l p = (G, 0)) := Lib.hid (by rw [← hG]; exact put_ok h0 hp hb hl)
  have hG0 : fieldChk G = 0 := by rw [← hG]; exact ins_ok h0 hp hb hl
  have hGk : G[lowB l p.id]? = some p := by rw [← hG]; exact ins_get l p
  have E3 : Hid (fieldFind G p.id = (p, 0)) := Lib.hid (find_at hG0 hGk)
  have E4 : Hid (fieldTake G p.id = (l, 0)) := Lib.hid (by rw [take_ok hG0 hGk, ← hG, ins_back])
  have E5 : Hid (fieldTake l p.id = ([], 6)) := Lib.hid (take_none h0 hb)
  have E6 := Lib.hid hG0
  have hGl : G.length = l.length + 1 := by rw [← hG, ins_len]
  have hl2 : (l.length : Int) ≤ 64 := by have := (fieldChk_zero h0).1; omega
  have z0 : ((G.length : Int) == (l.length : Int) + 1) = true := by rw [hGl]; simp
  have heq := eqP_yes p
  clear hs hn hg h0 hp hb hl hG hG0 hGk hGl
  go_enter Try.func13, Try.ntmps13
  go_wp2_with (fail)
  refine (great_lit A l.length c false HG.out _).mono ?_
  rintro e W1 ⟨rfl, hq⟩
  have hq1 := hq
  have hx : Bel w W1 := Bel.trans (show Bel w _ from (by (try simp only [ext_ext]); repeat (first | exact Bel.refl _ | assumption | refine bel_and ?_ _ | refine bel_drews ?_ _ | refine Bel.ext ?_ _ | refine Bel.alloc ?_ _ | refine Bel.drewN ?_ _))) (bel_of hq1)
  have hxb : Bel ((w.alloc (.cells #[.slice A l.length c] 24)).alloc (.cells #[.int .i64 p.id, .int .i64 p.a, .int .i64 p.b] 26)) W1 := by obtain ⟨y, hy⟩ := hq1; rw [hy]; exact (by (try simp only [ext_ext]); repeat (first | exact Bel.refl _ | assumption | refine bel_and ?_ _ | refine bel_drews ?_ _ | refine Bel.ext ?_ _ | refine Bel.alloc ?_ _ | refine Bel.drewN ?_ _))
  have B1 : Box W1 (w.heap.size) #[.slice A l.length c] := Box.new (W := w) (e := 24) (Bel.trans (by (try simp only [ext_ext]); repeat (first | exact Bel.refl _ | assumption | refine bel_and ?_ _ | refine bel_drews ?_ _ | refine Bel.ext ?_ _ | refine Bel.alloc ?_ _ | refine Bel.drewN ?_ _)) hxb) (by rfl)
  have B2 : Box W1 (w.heap.size + 1) #[.int .i64 p.id, .int .i64 p.a, .int .i64 p.b] := Box.new (W := (w.alloc (.cells #[.slice A l.length c] 24))) (e := 26) (Bel.trans (by (try simp only [ext_ext]); repeat (first | exact Bel.refl _ | assumption | refine bel_and ?_ _ | refine bel_drews ?_ _ | refine Bel.ext ?_ _ | refine Bel.alloc ?_ _ | refine Bel.drewN ?_ _)) hxb) (by simp)
  clear hxb
  clear hq hq1
  replace S0 := S0.bel hx
  have hb := hx
  clear hx
  have xlB1 := B1.lt
  have xeB1_0 := B1.eq 0 (.slice A l.length c) rfl
  go_wp2_with (fail)
  refine (ref3chk_lit A c l 0 H0.out _ (S0.bel (by (try simp only [ext_ext]); repeat (first | exact Bel.refl _ | assumption | refine bel_and ?_ _ | refine bel_drews ?_ _ | refine Bel.ext ?_ _ | refine Bel.alloc ?_ _ | refine Bel.drewN ?_ _)))).mono ?_
  rintro e W2 ⟨rfl, hq⟩
  have hq1 := hq
  have hx : Bel W1 W2 := Bel.trans (show Bel W1 _ from (by (try simp only [ext_ext]); repeat (first | exact Bel.refl _ | assumption | refine bel_and ?_ _ | refine bel_drews ?_ _ | refine Bel.ext ?_ _ | refine Bel.alloc ?_ _ | refine Bel.drewN ?_ _))) (bel_of hq1)
  clear hq hq1
  replace S0 := S0.bel hx
  replace B1 := B1.bel hx
  replace B2 := B2.bel hx
  replace hb := hb.trans hx
  clear hx xlB1 xeB1_0
  have xlB2 := B2.lt
  have xeB2_0 := B2.eq 0 (.int .i64 p.id) rfl
  have xeB2_1 := B2.eq 1 (.int .i64 p.a) rfl
  have xeB2_2 := B2.eq 2 (.int .i64 p.b) rfl
  go_wp2_with (fail)
  refine (pchk2_lit p 0 HP.out _).mono ?_
  rintro e W3 ⟨rfl, hq⟩
  have hq1 := hq
  have hx : Bel W2 W3 := Bel.trans (show Bel W2 _ from (by (try simp only [ext_ext]); repeat (first | exact Bel.refl _ | assumption | refine bel_and ?_ _ | refine bel_drews ?_ _ | refine Bel.ext ?_ _ | refine Bel.alloc ?_ _ | refine Bel.drewN ?_ _))) (bel_of hq1)
  clear hq hq1
  replace S0 := S0.bel hx
  replace B1 := B1.bel hx
  replace B2 := B2.bel hx
  replace hb := hb.trans hx
  clear hx xlB2 xeB2_0 xeB2_1 xeB2_2
  have xlB1 := B1.lt
  have xeB1_0 := B1.eq 0 (.slice A l.length c) rfl
  have xlB2 := B2.lt
  have xeB2_0 := B2.eq 0 (.int .i64 p.id) rfl
  have xeB2_1 := B2.eq 1 (.int .i64 p.a) rfl
  have xeB2_2 := B2.eq 2 (.int .i64 p.b) rfl
  go_wp2_with (fail)
  refine (find_lit A c l p.id Pt.zero 6 E1.out _ (S0.bel (by (try simp only [ext_ext]); repeat (first | exact Bel.refl _ | assumption | refine bel_and ?_ _ | refine bel_drews ?_ _ | refine Bel.ext ?_ _ | refine Bel.alloc ?_ _ | refine Bel.drewN ?_ _)))).mono ?_
  rintro e W4 ⟨rfl, hq⟩
  have hq1 := hq
  have hx : Bel W3 W4 := Bel.trans (show Bel W3 _ from (by (try simp only [ext_ext]); repeat (first | exact Bel.refl _ | assumption | refine bel_and ?_ _ | refine bel_drews ?_ _ | refine Bel.ext ?_ _ | refine Bel.alloc ?_ _ | refine Bel.drewN ?_ _))) (bel_of hq1)
  clear hq hq1
  replace S0 := S0.bel hx
  replace B1 := B1.bel hx
  replace B2 := B2.bel hx
  replace hb := hb.trans hx
  clear hx xlB1 xeB1_0 xlB2 xeB2_0 xeB2_1 xeB2_2
  have xlB1 := B1.lt
  have xeB1_0 := B1.eq 0 (.slice A l.length c) rfl
  have xlB2 := B2.lt
  have xeB2_0 := B2.eq 0 (.int .i64 p.id) rfl
  have xeB2_1 := B2.eq 1 (.int .i64 p.a) rfl
  have xeB2_2 := B2.eq 2 (.int .i64 p.b) rfl
  go_wp2_with (fail)
  refine (put_lit A c l p G 0 E2.out _ (S0.bel (by (try simp only [ext_ext]); repeat (first | exact Bel.refl _ | assumption | refine bel_and ?_ _ | refine bel_drews ?_ _ | refine Bel.ext ?_ _ | refine Bel.alloc ?_ _ | refine Bel.drewN ?_ _))) HN.out).mono ?_
  rintro e W5 ⟨A4, c4, rfl, hq⟩
  have hq1 := own_split hq
  have hx : Bel W4 W5 := Bel.trans (show Bel W4 _ from (by (try simp only [ext_ext]); repeat (first | exact Bel.refl _ | assumption | refine bel_and ?_ _ | refine bel_drews ?_ _ | refine Bel.ext ?_ _ | refine Bel.alloc ?_ _ | refine Bel.drewN ?_ _))) (bel_of hq1)
  have hxb : Bel (W4.alloc (.cells #[.int .i64 Pt.zero.id, .int .i64 Pt.zero.a, .int .i64 Pt.zero.b] 26)) W5 := by obtain ⟨y, hy⟩ := hq1; rw [hy]; exact (by (try simp only [ext_ext]); repeat (first | exact Bel.refl _ | assumption | refine bel_and ?_ _ | refine bel_drews ?_ _ | refine Bel.ext ?_ _ | refine Bel.alloc ?_ _ | refine Bel.drewN ?_ _))
  clear hxb
  have O4 := own_here hq
  clear hq hq1
  replace S0 := S0.bel hx
  replace B1 := B1.bel hx
  replace B2 := B2.bel hx
  replace hb := hb.trans hx
  clear hx xlB1 xeB1_0 xlB2 xeB2_0 xeB2_1 xeB2_2
  have xlB2 := B2.lt
  have xeB2_0 := B2.eq 0 (.int .i64 p.id) rfl
  have xeB2_1 := B2.eq 1 (.int .i64 p.a) rfl
  have xeB2_2 := B2.eq 2 (.int .i64 p.b) rfl
  go_wp2_with (fail)
  refine (find_lit A4 c4 G p.id p 0 E3.out _ (O4.sl.bel (by (try simp only [ext_ext]); repeat (first | exact Bel.refl _ | assumption | refine bel_and ?_ _ | refine bel_drews ?_ _ | refine Bel.ext ?_ _ | refine Bel.alloc ?_ _ | refine Bel.drewN ?_ _)))).mono ?_
  rintro e W6 ⟨rfl, hq⟩
  have hq1 := hq
  have hx : Bel W5 W6 := Bel.trans (show Bel W5 _ from (by (try simp only [ext_ext]); repeat (first | exact Bel.refl _ | assumption | refine bel_and ?_ _ | refine bel_drews ?_ _ | refine Bel.ext ?_ _ | refine Bel.alloc ?_ _ | refine Bel.drewN ?_ _))) (bel_of hq1)
  have hxb : Bel (W5.alloc (.cells #[.slice A4 G.length c4] 24)) W6 := by obtain ⟨y, hy⟩ := hq1; rw [hy]; exact (by (try simp only [ext_ext]); repeat (first | exact Bel.refl _ | assumption | refine bel_and ?_ _ | refine bel_drews ?_ _ | refine Bel.ext ?_ _ | refine Bel.alloc ?_ _ | refine Bel.drewN ?_ _))
  have B5 : Box W6 (W5.heap.size) #[.slice A4 G.length c4] := Box.new (W := W5) (e := 24) (Bel.trans (by (try simp only [ext_ext]); repeat (first | exact Bel.refl _ | assumption | refine bel_and ?_ _ | refine bel_drews ?_ _ | refine Bel.ext ?_ _ | refine Bel.alloc ?_ _ | refine Bel.drewN ?_ _)) hxb) (by rfl)
  clear hxb
  clear hq hq1
  replace S0 := S0.bel hx
  replace B1 := B1.bel hx
  replace B2 := B2.bel hx
  replace O4 := O4.bel hx
  replace hb := hb.trans hx
  clear hx xlB2 xeB2_0 xeB2_1 xeB2_2
  have xlB5 := B5.lt
  have xeB5_0 := B5.eq 0 (.slice A4 G.length c4) rfl
  have xlB2 := B2.lt
  have xeB2_0 := B2.eq 0 (.int .i64 p.id) rfl
  have xeB2_1 := B2.eq 1 (.int .i64 p.a) rfl
  have xeB2_2 := B2.eq 2 (.int .i64 p.b) rfl
  go_wp2_with (fail)
  refine (take_lit A4 c4 G p.id l 0 E4.out _ (O4.sl.bel (by (try simp only [ext_ext]); repeat (first | exact Bel.refl _ | assumption | refine bel_and ?_ _ | refine bel_drews ?_ _ | refine Bel.ext ?_ _ | refine Bel.alloc ?_ _ | refine Bel.drewN ?_ _))) O4.nilc).mono ?_
  rintro e W7 ⟨A7, c7, rfl, hq⟩
  have hq1 := own_split hq
  have hx : Bel W6 W7 := Bel.trans (show Bel W6 _ from (by (try simp only [ext_ext]); repeat (first | exact Bel.refl _ | assumption | refine bel_and ?_ _ | refine bel_drews ?_ _ | refine Bel.ext ?_ _ | refine Bel.alloc ?_ _ | refine Bel.drewN ?_ _))) (bel_of hq1)
  have hxb : Bel (W6.alloc (.cells #[.int .i64 p.id, .int .i64 p.a, .int .i64 p.b] 26)) W7 := by obtain ⟨y, hy⟩ := hq1; rw [hy]; exact (by (try simp only [ext_ext]); repeat (first | exact Bel.refl _ | assumption | refine bel_and ?_ _ | refine bel_drews ?_ _ | refine Bel.ext ?_ _ | refine Bel.alloc ?_ _ | refine Bel.drewN ?_ _))
  have B6 : Box W7 (W6.heap.size) #[.int .i64 p.id, .int .i64 p.a, .int .i64 p.b] := Box.new (W := W6) (e := 26) (Bel.trans (by (try simp only [ext_ext]); repeat (first | exact Bel.refl _ | assumption | refine bel_and ?_ _ | refine bel_drews ?_ _ | refine Bel.ext ?_ _ | refine Bel.alloc ?_ _ | refine Bel.drewN ?_ _)) hxb) (by rfl)
  clear hxb
  have O7 := own_here hq
  clear hq hq1
  replace S0 := S0.bel hx
  replace B1 := B1.bel hx
  replace B2 := B2.bel hx
  replace O4 := O4.bel hx
  replace B5 := B5.bel hx
  replace hb := hb.trans hx
  clear hx xlB5 xeB5_0 xlB2 xeB2_0 xeB2_1 xeB2_2
  have xlB1 := B1.lt
  have xeB1_0 := B1.eq 0 (.slice A l.length c) rfl
  have xlB2 := B2.lt
  have xeB2_0 := B2.eq 0 (.int .i64 p.id) rfl
  have xeB2_1 := B2.eq 1 (.int .i64 p.a) rfl
  have xeB2_2 := B2.eq 2 (.int .i64 p.b) rfl
  go_wp2_with (fail)
  refine (take_lit A c l p.id ([]) 6 E5.out _ (S0.bel (by (try simp only [ext_ext]); repeat (first | exact Bel.refl _ | assumption | refine bel_and ?_ _ | refine bel_drews ?_ _ | refine Bel.ext ?_ _ | refine Bel.alloc ?_ _ | refine Bel.drewN ?_ _))) HN.out).mono ?_
  rintro e W8 ⟨A9, c9, rfl, hq⟩
  have hq1 := own_split hq
  have hx : Bel W7 W8 := Bel.trans (show Bel W7 _ from (by (try simp only [ext_ext]); repeat (first | exact Bel.refl _ | assumption | refine bel_and ?_ _ | refine bel_drews ?_ _ | refine Bel.ext ?_ _ | refine Bel.alloc ?_ _ | refine Bel.drewN ?_ _))) (bel_of hq1)
  have hxb : Bel (W7.alloc (.cells #[.slice A7 l.length c7] 24)) W8 := by obtain ⟨y, hy⟩ := hq1; rw [hy]; exact (by (try simp only [ext_ext]); repeat (first | exact Bel.refl _ | assumption | refine bel_and ?_ _ | refine bel_drews ?_ _ | refine Bel.ext ?_ _ | refine Bel.alloc ?_ _ | refine Bel.drewN ?_ _))
  have B8 : Box W8 (W7.heap.size) #[.slice A7 l.length c7] := Box.new (W := W7) (e := 24) (Bel.trans (by (try simp only [ext_ext]); repeat (first | exact Bel.refl _ | assumption | refine bel_and ?_ _ | refine bel_drews ?_ _ | refine Bel.ext ?_ _ | refine Bel.alloc ?_ _ | refine Bel.drewN ?_ _)) hxb) (by rfl)
  clear hxb
  clear hq hq1
  replace S0 := S0.bel hx
  replace B1 := B1.bel hx
  replace B2 := B2.bel hx
  replace O4 := O4.bel hx
  replace B5 := B5.bel hx
  replace B6 := B6.bel hx
  replace O7 := O7.bel hx
  replace hb := hb.trans hx
  clear hx xlB1 xeB1_0 xlB2 xeB2_0 xeB2_1 xeB2_2
  have xlB6 := B6.lt
  have xeB6_0 := B6.eq 0 (.int .i64 p.id) rfl
  have xeB6_1 := B6.eq 1 (.int .i64 p.a) rfl
  have xeB6_2 := B6.eq 2 (.int .i64 p.b) rfl
  have xlB2 := B2.lt
  have xeB2_0 := B2.eq 0 (.int .i64 p.id) rfl
  have xeB2_1 := B2.eq 1 (.int .i64 p.a) rfl
  have xeB2_2 := B2.eq 2 (.int .i64 p.b) rfl
  have xlB8 := B8.lt
  have xeB8_0 := B8.eq 0 (.slice A7 l.length c7) rfl
  have xlB1 := B1.lt
  have xeB1_0 := B1.eq 0 (.slice A l.length c) rfl
  go_wp2_with (fail)
  refine (same03_lit A7 A c7 c l l true (decide_eq_true rfl) _ (O7.sl.bel (by (try simp only [ext_ext]); repeat (first | exact Bel.refl _ | assumption | refine bel_and ?_ _ | refine bel_drews ?_ _ | refine Bel.ext ?_ _ | refine Bel.alloc ?_ _ | refine Bel.drewN ?_ _))) (S0.bel (by (try simp only [ext_ext]); repeat (first | exact Bel.refl _ | assumption | refine bel_and ?_ _ | refine bel_drews ?_ _ | refine Bel.ext ?_ _ | refine Bel.alloc ?_ _ | refine Bel.drewN ?_ _))) (by have := HL.out; omega) (by have := HL.out; omega)).mono ?_
  rintro e W9 ⟨rfl, hq⟩
  have hq1 := hq
  have hx : Bel W8 W9 := Bel.trans (show Bel W8 _ from (by (try simp only [ext_ext]); repeat (first | exact Bel.refl _ | assumption | refine bel_and ?_ _ | refine bel_drews ?_ _ | refine Bel.ext ?_ _ | refine Bel.alloc ?_ _ | refine Bel.drewN ?_ _))) (bel_of hq1)
  have hxb : Bel (W8.alloc (.cells #[.slice A9 0 c9] 24)) W9 := by obtain ⟨y, hy⟩ := hq1; rw [hy]; exact (by (try simp only [ext_ext]); repeat (first | exact Bel.refl _ | assumption | refine bel_and ?_ _ | refine bel_drews ?_ _ | refine Bel.ext ?_ _ | refine Bel.alloc ?_ _ | refine Bel.drewN ?_ _))
  clear hxb
  clear hq hq1
  replace B1 := B1.bel hx
  replace O4 := O4.bel hx
  replace B5 := B5.bel hx
  replace hb := hb.trans hx
  clear hx xlB6 xeB6_0 xeB6_1 xeB6_2 xlB2 xeB2_0 xeB2_1 xeB2_2 xlB8 xeB8_0 xlB1 xeB1_0 S0 B2 B6 O7 B8
  have xlB5 := B5.lt
  have xeB5_0 := B5.eq 0 (.slice A4 G.length c4) rfl
  go_wp2_with (fail)
  refine (fcheck_lit A4 c4 G 0 E6.out _ (O4.sl.bel (by (try simp only [ext_ext]); repeat (first | exact Bel.refl _ | assumption | refine bel_and ?_ _ | refine bel_drews ?_ _ | refine Bel.ext ?_ _ | refine Bel.alloc ?_ _ | refine Bel.drewN ?_ _)))).mono ?_
  rintro e W10 ⟨rfl, hq⟩
  have hq1 := hq
  have hx : Bel W9 W10 := Bel.trans (show Bel W9 _ from (by (try simp only [ext_ext]); repeat (first | exact Bel.refl _ | assumption | refine bel_and ?_ _ | refine bel_drews ?_ _ | refine Bel.ext ?_ _ | refine Bel.alloc ?_ _ | refine Bel.drewN ?_ _))) (bel_of hq1)
  clear hq hq1
  replace B1 := B1.bel hx
  replace B5 := B5.bel hx
  replace hb := hb.trans hx
  clear hx xlB5 xeB5_0 O4
  have xlB5 := B5.lt
  have xeB5_0 := B5.eq 0 (.slice A4 G.length c4) rfl
  have xlB1 := B1.lt
  have xeB1_0 := B1.eq 0 (.slice A l.length c) rfl
  go_wp2_with (fail)
  refine (alive03_any _).mono ?_
  rintro e W11 ⟨rfl, hq⟩
  have hq1 := hq
  have hx : Bel W10 W11 := Bel.trans (show Bel W10 _ from (by (try simp only [ext_ext]); repeat (first | exact Bel.refl _ | assumption | refine bel_and ?_ _ | refine bel_drews ?_ _ | refine Bel.ext ?_ _ | refine Bel.alloc ?_ _ | refine Bel.drewN ?_ _))) (bel_of hq1)
  clear hq hq1
  replace hb := hb.trans hx
  clear hx xlB5 xeB5_0 xlB1 xeB1_0 B1 B5
  go_wp2
  (go_ret; exact ⟨ret_bool (by rfl), ext_of (by (try simp only [ext_ext]); repeat (first | exact Bel.refl _ | assumption | refine bel_and ?_ _ | refine bel_drews ?_ _ | refine Bel.ext ?_ _ | refine Bel.alloc ?_ _ | refine Bel.drewN ?_ _))⟩)
theorem fback_walk (A : Option Addr) (c : Nat) (l : List Pt) (p : Pt) (w : World) (hs : Sl w 3 A l.length c (vp l)) (hn : A = none → c = 0) :
    Calls Try.prog 13 #[.agg #[.slice A l.length c], .agg #[.int .i64 p.id, .int .i64 p.a, .int .i64 p.b]] w fun e w' => e = .returned (.bool true) ∧ ∃ x, w' = ext w x := by
  cases hg : great l.length with
  | true => exact fback_great A c l p w hs hn hg
  | false =>
    by_cases h0 : fieldChk l = 0
    · by_cases hp : p.chk = 0
      · cases hb : hasB l p.id with
        | true => exact fback_there A c l p w hs hn hg h0 hp hb
        | false =>
          by_cases hl : l.length = 64
          · exact fback_full A c l p w hs hn hg h0 hp hb hl
          · exact fback_put A c l p w hs hn hg h0 hp hb hl
      · exact fback_pt A c l p w hs hn hg h0 _ rfl (by simpa using hp)
    · exact fback_bad A c l p w hs hn hg _ rfl (by simpa using h0)
set_option maxRecDepth 100000 in
theorem fieldBack_lifted (os : Os) (started : os.Started) (H : Type) (enc : TypeId × Value → H) :
    ReturnsInHanded {} Try.checked os 13 .any (Rows.fieldBackSpec.pre6 enc Try.prog Try.f13 Rows.fieldBackRow.domain false) (Rows.fieldBackSpec.post enc Try.prog Try.f13 false true false false) := by
  refine returnsInHanded_of_change (C := Try.checked) ownKnob_ started (by kernel_rfl) Try.func13
    (ChangeSpec.witness6 (enc := enc) (C := Try.checked) false ⟨#[], #[.agg #[.slice none 0 0], .agg #[.int .i64 0, .int .i64 0, .int .i64 0]], []⟩ 8 (by kernel_rfl) (by kernel_rfl) (by kernel_rfl) (by kernel_rfl)) ?_
  intro W base args ds gs before hval0 hW hcnd _
  have hval : ∀ (j : Nat) t v, Try.f13.params[j]? = some t → args[j]? = some v → Value.okWide Try.prog W .any base t v := hval0
  have hW' := hW
  obtain ⟨p, q, hA0, hV, rfl, hfz, hnd⟩ := hW
  have hA : DataW.TrodAll enc Try.prog W 0 (fun _ => true) true Try.f13.params.toList args.toList ds p := hA0
  rw [Try.params13] at hA hval
  obtain ⟨v0, vs0, d0, ds0, p0, q0, hargs, rfl, rfl, h0, r0⟩ := trodAll_cons hA
  obtain ⟨v1, vs1, d1, ds1, p1, q1, rfl, rfl, rfl, h1, r1⟩ := trodAll_cons r0
  obtain ⟨rfl, rfl, rfl⟩ := trodAll_nil r1
  obtain rfl : args = #[v0, v1] := by cases args; simp_all
  obtain ⟨rfl, rfl⟩ := trodVars_none hV
  have k0_ := h0
  have lt0 : ∀ x ∈ p0, x.block < W.heap.size := by obtain ⟨m, hm⟩ := k0_; exact DataW.trod_lt m _ _ _ hm
  have k1_ := h1
  have lt1 : ∀ x ∈ p1, x.block < W.heap.size := by obtain ⟨m, hm⟩ := k1_; exact DataW.trod_lt m _ _ _ hm
  obtain ⟨cs0, rfl, hsz0⟩ := okWide_struct Try.underlying24 (hval 0 24 v0 rfl rfl)
  obtain ⟨l0⟩ := cs0
  obtain ⟨fuel0, hf0⟩ := h0
  obtain ⟨A0, c0, l0, rfl, hsl0, hnil0, hfit0⟩ := field_cells hf0 (by rw [cellsF_field] at hsz0; exact hsz0)
  obtain ⟨cs1, rfl, hsz1⟩ := okWide_struct Try.underlying26 (hval 1 26 v1 rfl rfl)
  obtain ⟨l1⟩ := cs1
  obtain ⟨fuel1, hf1⟩ := h1
  obtain ⟨p1, rfl, hfit1⟩ := point_cells hf1 (by rw [cellsF_point] at hsz1; exact hsz1)
  clear hA0 hval0
  refine (fback_walk A0 c0 l0 p1 _ hsl0 hnil0).mono fun e W' ⟨he, hx⟩ => ?_
  have bel : Below W.heap.size W W' := (bel_of hx).toBelow
  subst he
  exact ⟨_, rfl, _, _, _, [], _, [], hW', trodAll_mk1 (shut_bool Try.underlying4 _), (trodAll_cons_mk (Below.trod laidOut_ (by kernel_rfl) (of_decide_eq_true (by kernel_rfl)) k0_ bel lt0) (trodAll_cons_mk (Below.trod laidOut_ (by kernel_rfl) (of_decide_eq_true (by kernel_rfl)) k1_ bel lt1) trodAll_mk0)), rfl, bel.frame _, fun h => by cases h⟩
theorem fieldBack_over : Rows.fieldBackRow.holds Try.pinned (OpenSpec.ofChange Rows.fieldBackSpec) :=
  OpenClaim.holds_of_wide 13 Try.f13 rfl rfl rfl rfl rfl rfl rfl ⟨rfl, rfl, rfl, rfl, rfl⟩ rfl rfl rfl rfl rfl (by kernel_rfl) Try.func13 (by kernel_rfl)
    (of_decide_eq_true (by kernel_rfl)) (by unfold Func.isWrapper; rw [if_neg (of_decide_eq_false (by kernel_rfl))]; exact ⟨rfl, rfl⟩)
    (fun os started H enc _ => fieldBack_lifted os started H enc)
/-- The statement. -/
theorem fieldBack_holds : Rows.FieldBackSaid := fieldBack_over
end Go.Proofs.Ytkcpnclgcmnlcaa
