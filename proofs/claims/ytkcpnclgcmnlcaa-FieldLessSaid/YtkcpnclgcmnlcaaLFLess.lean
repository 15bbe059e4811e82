/- For every field, time and ID: without one of its points the order is what is left of it, and its rank parts those that are ahead of it from the others: the statement FieldLess. (Printed by genfless.py.) -/
import Derived.Test.YtkcpnclgcmnlcaaGd
set_option linter.unusedSimpArgs false
set_option linter.unusedVariables false
namespace Go.Proofs.Ytkcpnclgcmnlcaa
open Go.ChangeShapes Go.WideShapes Go.ChangeAt Go.RowKit Go.Pel
theorem same_joined {A8 : Option Addr} {c8 : Nat} {L R : List Int} {i n0 : Nat} {V : World} {B : Nat} (A : Option Addr) (c : Nat) (h8 : Own V B 3 1 A8 (i + (L.length - (i + 1))) c8 (vi (L.take i) ++ vi (L.drop (i + 1)))) (hR : L.take i ++ L.drop (i + 1) = R) (hl : L.length = n0) (hr : R.length + 1 = L.length) (hn : n0 ≤ 70) (hs : Sl V 1 A R.length c (vi R)) :
    Calls Try.prog 34 #[.slice A R.length c, .slice A8 (i + (L.length - (i + 1))) c8] V fun e w' => e = .returned (.bool true) ∧ ∃ x, w' = ext V x := by
  have e1 : i + (L.length - (i + 1)) = R.length := by
    have h := h8.len
    rw [← vi_append, hR] at h
    simp [vi] at h; omega
  rw [← vi_append, hR, e1] at h8
  rw [e1]
  exact sameIDs_lit A A8 c c8 R R true (decide_eq_true rfl) V hs h8.sl (by omega) (by omega)
set_option maxRecDepth 10000 in
set_option maxHeartbeats 4000000 in
theorem fless_unfit (A : Option Addr) (c : Nat) (l : List Pt) (n d id : Int) (w : World) (hs : Sl w 3 A l.length c (vp l)) (hn : A = none → c = 0) (hN : -9223372036854775808 ≤ n ∧ n ≤ 9223372036854775807) (hD : -9223372036854775808 ≤ d ∧ d ≤ 9223372036854775807) (hf : (!great l.length && timed l n d == 0) = false) :
    Calls Try.prog 11 #[.agg #[.slice A l.length c], .agg #[.int .i64 n, .int .i64 d], .int .i64 id] w fun e w' => e = .returned (.bool true) ∧ ∃ x, w' = ext w x := by
  have S0 := hs
  have HN := Lib.hid hn
  have KN := Lib.hid hN
  have KD := Lib.hid hD
  have HF := Lib.hid (fun (W : World) (hw : Sl W 3 A l.length c (vp l)) => fit_lit A c l n d false hf W hN hD hw)
  clear hs hn hN hD hf
  go_enter Try.func11, Try.ntmps11
  go_wp2_with (fail)
  refine ((HF.out _ (S0.bel (by (try simp only [ext_ext]); repeat (first | exact Bel.refl _ | assumption | refine bel_and ?_ _ | refine bel_drews ?_ _ | refine Bel.ext ?_ _ | refine Bel.alloc ?_ _ | refine Bel.drewN ?_ _))))).mono ?_
  rintro e W1 ⟨rfl, hq⟩
  have hq1 := hq
  have hx : Bel w W1 := Bel.trans (show Bel w _ from (by (try simp only [ext_ext]); repeat (first | exact Bel.refl _ | assumption | refine bel_and ?_ _ | refine bel_drews ?_ _ | refine Bel.ext ?_ _ | refine Bel.alloc ?_ _ | refine Bel.drewN ?_ _))) (bel_of hq1)
  have hxb : Bel ((w.alloc (.cells #[.slice A l.length c] 24)).alloc (.cells #[.int .i64 n, .int .i64 d] 49)) W1 := by obtain ⟨y, hy⟩ := hq1; rw [hy]; exact (by (try simp only [ext_ext]); repeat (first | exact Bel.refl _ | assumption | refine bel_and ?_ _ | refine bel_drews ?_ _ | refine Bel.ext ?_ _ | refine Bel.alloc ?_ _ | refine Bel.drewN ?_ _))
  clear hxb
  clear hq hq1
  have hb := hx
  clear hx S0
  go_wp2_with (fail)
  refine (alive03_any _).mono ?_
  rintro e W2 ⟨rfl, hq⟩
  have hq1 := hq
  have hx : Bel W1 W2 := Bel.trans (show Bel W1 _ from (by (try simp only [ext_ext]); repeat (first | exact Bel.refl _ | assumption | refine bel_and ?_ _ | refine bel_drews ?_ _ | refine Bel.ext ?_ _ | refine Bel.alloc ?_ _ | refine Bel.drewN ?_ _))) (bel_of hq1)
  clear hq hq1
  replace hb := hb.trans hx
  clear hx
  go_wp2
  (go_ret; exact ⟨ret_bool (by rfl), ext_of (by (try simp only [ext_ext]); repeat (first | exact Bel.refl _ | assumption | refine bel_and ?_ _ | refine bel_drews ?_ _ | refine Bel.ext ?_ _ | refine Bel.alloc ?_ _ | refine Bel.drewN ?_ _))⟩)
set_option maxRecDepth 10000 in
set_option maxHeartbeats 4000000 in
theorem fless_none (A : Option Addr) (c : Nat) (l : List Pt) (n d id : Int) (w : World) (hs : Sl w 3 A l.length c (vp l)) (hn : A = none → c = 0) (hN : -9223372036854775808 ≤ n ∧ n ≤ 9223372036854775807) (hD : -9223372036854775808 ≤ d ∧ d ≤ 9223372036854775807) (hf : (!great l.length && timed l n d == 0) = true) (hb : hasB l id = false) :
    Calls Try.prog 11 #[.agg #[.slice A l.length c], .agg #[.int .i64 n, .int .i64 d], .int .i64 id] w fun e w' => e = .returned (.bool true) ∧ ∃ x, w' = ext w x := by
  have S0 := hs
  have HN := Lib.hid hn
  have KN := Lib.hid hN
  have KD := Lib.hid hD
  have HF := Lib.hid (fun (W : World) (hw : Sl W 3 A l.length c (vp l)) => fit_lit A c l n d true hf W hN hD hw)
  obtain ⟨hg, ht⟩ : great l.length = false ∧ timed l n d = 0 := by simpa using hf
  have hl : l.length ≤ 70 := by unfold great at hg; simp at hg; omega
  have HL := Lib.hid hl
  have E1 := Lib.hid (rank_none ht hb)
  have E2 := Lib.hid (find_none (timed_zero ht).1 hb)
  clear hs hn hN hD hf hg ht hl hb
  go_enter Try.func11, Try.ntmps11
  go_wp2_with (fail)
  refine ((HF.out _ (S0.bel (by (try simp only [ext_ext]); repeat (first | exact Bel.refl _ | assumption | refine bel_and ?_ _ | refine bel_drews ?_ _ | refine Bel.ext ?_ _ | refine Bel.alloc ?_ _ | refine Bel.drewN ?_ _))))).mono ?_
  rintro e W1 ⟨rfl, hq⟩
  have hq1 := hq
  have hx : Bel w W1 := Bel.trans (show Bel w _ from (by (try simp only [ext_ext]); repeat (first | exact Bel.refl _ | assumption | refine bel_and ?_ _ | refine bel_drews ?_ _ | refine Bel.ext ?_ _ | refine Bel.alloc ?_ _ | refine Bel.drewN ?_ _))) (bel_of hq1)
  have hxb : Bel ((w.alloc (.cells #[.slice A l.length c] 24)).alloc (.cells #[.int .i64 n, .int .i64 d] 49)) W1 := by obtain ⟨y, hy⟩ := hq1; rw [hy]; exact (by (try simp only [ext_ext]); repeat (first | exact Bel.refl _ | assumption | refine bel_and ?_ _ | refine bel_drews ?_ _ | refine Bel.ext ?_ _ | refine Bel.alloc ?_ _ | refine Bel.drewN ?_ _))
  have B1 : Box W1 (w.heap.size) #[.slice A l.length c] := Box.new (W := w) (e := 24) (Bel.trans (by (try simp only [ext_ext]); repeat (first | exact Bel.refl _ | assumption | refine bel_and ?_ _ | refine bel_drews ?_ _ | refine Bel.ext ?_ _ | refine Bel.alloc ?_ _ | refine Bel.drewN ?_ _)) hxb) (by rfl)
  have B2 : Box W1 (w.heap.size + 1) #[.int .i64 n, .int .i64 d] := Box.new (W := (w.alloc (.cells #[.slice A l.length c] 24))) (e := 49) (Bel.trans (by (try simp only [ext_ext]); repeat (first | exact Bel.refl _ | assumption | refine bel_and ?_ _ | refine bel_drews ?_ _ | refine Bel.ext ?_ _ | refine Bel.alloc ?_ _ | refine Bel.drewN ?_ _)) hxb) (by simp)
  clear hxb
  clear hq hq1
  replace S0 := S0.bel hx
  have hb := hx
  clear hx
  have xlB1 := B1.lt
  have xeB1_0 := B1.eq 0 (.slice A l.length c) rfl
  have xlB2 := B2.lt
  have xeB2_0 := B2.eq 0 (.int .i64 n) rfl
  have xeB2_1 := B2.eq 1 (.int .i64 d) rfl
  go_wp2_with (fail)
  refine (rank_lit A c l id n d 0 6 E1.out _ KN.out KD.out (S0.bel (by (try simp only [ext_ext]); repeat (first | exact Bel.refl _ | assumption | refine bel_and ?_ _ | refine bel_drews ?_ _ | refine Bel.ext ?_ _ | refine Bel.alloc ?_ _ | refine Bel.drewN ?_ _))) HN.out (by have := HL.out; omega)).mono ?_
  rintro e W2 ⟨rfl, hq⟩
  have hq1 := hq
  have hx : Bel W1 W2 := Bel.trans (show Bel W1 _ from (by (try simp only [ext_ext]); repeat (first | exact Bel.refl _ | assumption | refine bel_and ?_ _ | refine bel_drews ?_ _ | refine Bel.ext ?_ _ | refine Bel.alloc ?_ _ | refine Bel.drewN ?_ _))) (bel_of hq1)
  clear hq hq1
  replace S0 := S0.bel hx
  replace B1 := B1.bel hx
  replace hb := hb.trans hx
  clear hx xlB1 xeB1_0 xlB2 xeB2_0 xeB2_1 B2
  have xlB1 := B1.lt
  have xeB1_0 := B1.eq 0 (.slice A l.length c) rfl
  go_wp2_with (fail)
  refine (find_lit A c l id Pt.zero 6 E2.out _ (S0.bel (by (try simp only [ext_ext]); repeat (first | exact Bel.refl _ | assumption | refine bel_and ?_ _ | refine bel_drews ?_ _ | refine Bel.ext ?_ _ | refine Bel.alloc ?_ _ | refine Bel.drewN ?_ _)))).mono ?_
  rintro e W3 ⟨rfl, hq⟩
  have hq1 := hq
  have hx : Bel W2 W3 := Bel.trans (show Bel W2 _ from (by (try simp only [ext_ext]); repeat (first | exact Bel.refl _ | assumption | refine bel_and ?_ _ | refine bel_drews ?_ _ | refine Bel.ext ?_ _ | refine Bel.alloc ?_ _ | refine Bel.drewN ?_ _))) (bel_of hq1)
  clear hq hq1
  replace hb := hb.trans hx
  clear hx xlB1 xeB1_0 S0 B1
  go_wp2_with (fail)
  refine (alive03_any _).mono ?_
  rintro e W4 ⟨rfl, hq⟩
  have hq1 := hq
  have hx : Bel W3 W4 := Bel.trans (show Bel W3 _ from (by (try simp only [ext_ext]); repeat (first | exact Bel.refl _ | assumption | refine bel_and ?_ _ | refine bel_drews ?_ _ | refine Bel.ext ?_ _ | refine Bel.alloc ?_ _ | refine Bel.drewN ?_ _))) (bel_of hq1)
  have hxb : Bel (W3.alloc (.cells #[.int .i64 Pt.zero.id, .int .i64 Pt.zero.a, .int .i64 Pt.zero.b] 26)) W4 := by obtain ⟨y, hy⟩ := hq1; rw [hy]; exact (by (try simp only [ext_ext]); repeat (first | exact Bel.refl _ | assumption | refine bel_and ?_ _ | refine bel_drews ?_ _ | refine Bel.ext ?_ _ | refine Bel.alloc ?_ _ | refine Bel.drewN ?_ _))
  have B3 : Box W4 (W3.heap.size) #[.int .i64 Pt.zero.id, .int .i64 Pt.zero.a, .int .i64 Pt.zero.b] := Box.new (W := W3) (e := 26) (Bel.trans (by (try simp only [ext_ext]); repeat (first | exact Bel.refl _ | assumption | refine bel_and ?_ _ | refine bel_drews ?_ _ | refine Bel.ext ?_ _ | refine Bel.alloc ?_ _ | refine Bel.drewN ?_ _)) hxb) (by rfl)
  clear hxb
  clear hq hq1
  replace hb := hb.trans hx
  clear hx
  go_wp2
  (go_ret; exact ⟨ret_bool (by rfl), ext_of (by (try simp only [ext_ext]); repeat (first | exact Bel.refl _ | assumption | refine bel_and ?_ _ | refine bel_drews ?_ _ | refine Bel.ext ?_ _ | refine Bel.alloc ?_ _ | refine Bel.drewN ?_ _))⟩)
set_option maxRecDepth 10000 in
set_option maxHeartbeats 4000000 in
theorem fless_there (A : Option Addr) (c : Nat) (l : List Pt) (n d id : Int) (w : World) (hs : Sl w 3 A l.length c (vp l)) (hn : A = none → c = 0) (hN : -9223372036854775808 ≤ n ∧ n ≤ 9223372036854775807) (hD : -9223372036854775808 ≤ d ∧ d ≤ 9223372036854775807) (hf : (!great l.length && timed l n d == 0) = true) (hb : hasB l id = true) :
    Calls Try.prog 11 #[.agg #[.slice A l.length c], .agg #[.int .i64 n, .int .i64 d], .int .i64 id] w fun e w' => e = .returned (.bool true) ∧ ∃ x, w' = ext w x := by
  have S0 := hs
  have HN := Lib.hid hn
  have KN := Lib.hid hN
  have KD := Lib.hid hD
  have HF := Lib.hid (fun (W : World) (hw : Sl W 3 A l.length c (vp l)) => fit_lit A c l n d true hf W hN hD hw)
  obtain ⟨hg, ht⟩ : great l.length = false ∧ timed l n d = 0 := by simpa using hf
  have hl : l.length ≤ 70 := by unfold great at hg; simp at hg; omega
  have HL := Lib.hid hl
  have h0 := (timed_zero ht).1
  obtain ⟨p, hp, he⟩ := hasB_ex hb
  obtain ⟨k, hk⟩ := List.mem_iff_getElem?.1 hp
  obtain ⟨i, hi⟩ := List.mem_iff_getElem?.1 ((sortP_perm n d l).mem_iff.2 hp)
  obtain ⟨L, hL⟩ : ∃ L, (sortP n d l).map Pt.id = L := ⟨_, rfl⟩
  obtain ⟨G, hG⟩ : ∃ G, l.eraseIdx k = G := ⟨_, rfl⟩
  obtain ⟨R, hR⟩ : ∃ R, L.eraseIdx i = R := ⟨_, rfl⟩
  have E1 : Hid (fieldRank l id n d = ((i : Int), 0)) := Lib.hid (by rw [← he]; exact rank_at ht hi)
  have E2 : Hid (fieldTake l id = (G, 0)) := Lib.hid (by rw [← he, ← hG]; exact take_ok h0 hk)
  have E3 : Hid (fieldOrder l n d = (L, 0)) := Lib.hid (by rw [order_ok ht, hL])
  have E4 : Hid (fieldOrder G n d = (R, 0)) := Lib.hid (by rw [← hG, order_less ht hk hi, hL, hR])
  have hLi : L[i]? = some id := by rw [← hL, ← he]; simp [hi]
  have hil := (List.getElem?_eq_some_iff.1 hLi).1
  have HLi := Lib.hid hLi
  have hll : L.length = l.length := by rw [← hL, List.length_map, sortP_length]
  have hrl : R.length + 1 = L.length := by rw [← hR, List.length_eraseIdx, if_pos hil]; omega
  have hgl : G.length ≤ l.length := by rw [← hG]; exact (List.eraseIdx_sublist l k).length_le
  have HLL := Lib.hid hll
  have HRL := Lib.hid hrl
  have HGL := Lib.hid hgl
  have HRe : Hid (L.take i ++ L.drop (i + 1) = R) := Lib.hid (by rw [← hR, List.eraseIdx_eq_take_drop_succ])
  have hLb : (L.length : Int) ≤ 70 := by omega
  have z1 : decide ((i : Int) < 0) = false := by rw [decide_eq_false_iff_not]; omega
  have z2 : decide ((L.length : Int) ≤ (i : Int)) = false := by rw [decide_eq_false_iff_not]; omega
  have z3 : ((R.length : Int) != (L.length : Int) - 1) = false := by rw [bne_eq_false_iff_eq]; omega
  have hil' : (i : Int) < (L.length : Int) := by omega
  clear hs hn hN hD hf hg ht hl hb h0 hp he hk hi hL hG hR hLi hll hrl hgl
  go_enter Try.func11, Try.ntmps11
  go_wp2_with (fail)
  refine ((HF.out _ (S0.bel (by (try simp only [ext_ext]); repeat (first | exact Bel.refl _ | assumption | refine bel_and ?_ _ | refine bel_drews ?_ _ | refine Bel.ext ?_ _ | refine Bel.alloc ?_ _ | refine Bel.drewN ?_ _))))).mono ?_
  rintro e W1 ⟨rfl, hq⟩
  have hq1 := hq
  have hx : Bel w W1 := Bel.trans (show Bel w _ from (by (try simp only [ext_ext]); repeat (first | exact Bel.refl _ | assumption | refine bel_and ?_ _ | refine bel_drews ?_ _ | refine Bel.ext ?_ _ | refine Bel.alloc ?_ _ | refine Bel.drewN ?_ _))) (bel_of hq1)
  have hxb : Bel ((w.alloc (.cells #[.slice A l.length c] 24)).alloc (.cells #[.int .i64 n, .int .i64 d] 49)) W1 := by obtain ⟨y, hy⟩ := hq1; rw [hy]; exact (by (try simp only [ext_ext]); repeat (first | exact Bel.refl _ | assumption | refine bel_and ?_ _ | refine bel_drews ?_ _ | refine Bel.ext ?_ _ | refine Bel.alloc ?_ _ | refine Bel.drewN ?_ _))
  have B1 : Box W1 (w.heap.size) #[.slice A l.length c] := Box.new (W := w) (e := 24) (Bel.trans (by (try simp only [ext_ext]); repeat (first | exact Bel.refl _ | assumption | refine bel_and ?_ _ | refine bel_drews ?_ _ | refine Bel.ext ?_ _ | refine Bel.alloc ?_ _ | refine Bel.drewN ?_ _)) hxb) (by rfl)
  have B2 : Box W1 (w.heap.size + 1) #[.int .i64 n, .int .i64 d] := Box.new (W := (w.alloc (.cells #[.slice A l.length c] 24))) (e := 49) (Bel.trans (by (try simp only [ext_ext]); repeat (first | exact Bel.refl _ | assumption | refine bel_and ?_ _ | refine bel_drews ?_ _ | refine Bel.ext ?_ _ | refine Bel.alloc ?_ _ | refine Bel.drewN ?_ _)) hxb) (by simp)
  clear hxb
  clear hq hq1
  replace S0 := S0.bel hx
  have hb := hx
  clear hx
  have xlB1 := B1.lt
  have xeB1_0 := B1.eq 0 (.slice A l.length c) rfl
  have xlB2 := B2.lt
  have xeB2_0 := B2.eq 0 (.int .i64 n) rfl
  have xeB2_1 := B2.eq 1 (.int .i64 d) rfl
  go_wp2_with (fail)
  refine (rank_lit A c l id n d (i : Int) 0 E1.out _ KN.out KD.out (S0.bel (by (try simp only [ext_ext]); repeat (first | exact Bel.refl _ | assumption | refine bel_and ?_ _ | refine bel_drews ?_ _ | refine Bel.ext ?_ _ | refine Bel.alloc ?_ _ | refine Bel.drewN ?_ _))) HN.out (by have := HL.out; omega)).mono ?_
  rintro e W2 ⟨rfl, hq⟩
  have hq1 := hq
  have hx : Bel W1 W2 := Bel.trans (show Bel W1 _ from (by (try simp only [ext_ext]); repeat (first | exact Bel.refl _ | assumption | refine bel_and ?_ _ | refine bel_drews ?_ _ | refine Bel.ext ?_ _ | refine Bel.alloc ?_ _ | refine Bel.drewN ?_ _))) (bel_of hq1)
  clear hq hq1
  replace S0 := S0.bel hx
  replace B1 := B1.bel hx
  replace B2 := B2.bel hx
  replace hb := hb.trans hx
  clear hx xlB1 xeB1_0 xlB2 xeB2_0 xeB2_1
  have xlB1 := B1.lt
  have xeB1_0 := B1.eq 0 (.slice A l.length c) rfl
  go_wp2_with (fail)
  refine (take_lit A c l id G 0 E2.out _ (S0.bel (by (try simp only [ext_ext]); repeat (first | exact Bel.refl _ | assumption | refine bel_and ?_ _ | refine bel_drews ?_ _ | refine Bel.ext ?_ _ | refine Bel.alloc ?_ _ | refine Bel.drewN ?_ _))) HN.out).mono ?_
  rintro e W3 ⟨A3, c3, rfl, hq⟩
  have hq1 := own_split hq
  have hx : Bel W2 W3 := Bel.trans (show Bel W2 _ from (by (try simp only [ext_ext]); repeat (first | exact Bel.refl _ | assumption | refine bel_and ?_ _ | refine bel_drews ?_ _ | refine Bel.ext ?_ _ | refine Bel.alloc ?_ _ | refine Bel.drewN ?_ _))) (bel_of hq1)
  have O3 := own_here hq
  clear hq hq1
  replace S0 := S0.bel hx
  replace B1 := B1.bel hx
  replace B2 := B2.bel hx
  replace hb := hb.trans hx
  clear hx xlB1 xeB1_0
  have xlB1 := B1.lt
  have xeB1_0 := B1.eq 0 (.slice A l.length c) rfl
  have xlB2 := B2.lt
  have xeB2_0 := B2.eq 0 (.int .i64 n) rfl
  have xeB2_1 := B2.eq 1 (.int .i64 d) rfl
  go_wp2_with (fail)
  refine (order_lit A c l n d L 0 E3.out _ KN.out KD.out (S0.bel (by (try simp only [ext_ext]); repeat (first | exact Bel.refl _ | assumption | refine bel_and ?_ _ | refine bel_drews ?_ _ | refine Bel.ext ?_ _ | refine Bel.alloc ?_ _ | refine Bel.drewN ?_ _))) HN.out (by have := HL.out; omega)).mono ?_
  rintro e W4 ⟨A5, c5, rfl, hq⟩
  have hq1 := own_split hq
  have hx : Bel W3 W4 := Bel.trans (show Bel W3 _ from (by (try simp only [ext_ext]); repeat (first | exact Bel.refl _ | assumption | refine bel_and ?_ _ | refine bel_drews ?_ _ | refine Bel.ext ?_ _ | refine Bel.alloc ?_ _ | refine Bel.drewN ?_ _))) (bel_of hq1)
  have hxb : Bel (W3.alloc (.cells #[.slice A3 G.length c3] 24)) W4 := by obtain ⟨y, hy⟩ := hq1; rw [hy]; exact (by (try simp only [ext_ext]); repeat (first | exact Bel.refl _ | assumption | refine bel_and ?_ _ | refine bel_drews ?_ _ | refine Bel.ext ?_ _ | refine Bel.alloc ?_ _ | refine Bel.drewN ?_ _))
  have B4 : Box W4 (W3.heap.size) #[.slice A3 G.length c3] := Box.new (W := W3) (e := 24) (Bel.trans (by (try simp only [ext_ext]); repeat (first | exact Bel.refl _ | assumption | refine bel_and ?_ _ | refine bel_drews ?_ _ | refine Bel.ext ?_ _ | refine Bel.alloc ?_ _ | refine Bel.drewN ?_ _)) hxb) (by rfl)
  clear hxb
  have O5 := own_here hq
  clear hq hq1
  replace B2 := B2.bel hx
  replace O3 := O3.bel hx
  replace hb := hb.trans hx
  clear hx xlB1 xeB1_0 xlB2 xeB2_0 xeB2_1 S0 B1
  have xlB4 := B4.lt
  have xeB4_0 := B4.eq 0 (.slice A3 G.length c3) rfl
  have xlB2 := B2.lt
  have xeB2_0 := B2.eq 0 (.int .i64 n) rfl
  have xeB2_1 := B2.eq 1 (.int .i64 d) rfl
  go_wp2_with (fail)
  refine (order_lit A3 c3 G n d R 0 E4.out _ KN.out KD.out (O3.sl.bel (by (try simp only [ext_ext]); repeat (first | exact Bel.refl _ | assumption | refine bel_and ?_ _ | refine bel_drews ?_ _ | refine Bel.ext ?_ _ | refine Bel.alloc ?_ _ | refine Bel.drewN ?_ _))) O3.nilc (by have := HL.out; have := HGL.out; omega)).mono ?_
  rintro e W5 ⟨A6, c6, rfl, hq⟩
  have hq1 := own_split hq
  have hx : Bel W4 W5 := Bel.trans (show Bel W4 _ from (by (try simp only [ext_ext]); repeat (first | exact Bel.refl _ | assumption | refine bel_and ?_ _ | refine bel_drews ?_ _ | refine Bel.ext ?_ _ | refine Bel.alloc ?_ _ | refine Bel.drewN ?_ _))) (bel_of hq1)
  have O6 := own_here hq
  clear hq hq1
  replace O5 := O5.bel hx
  replace hb := hb.trans hx
  clear hx xlB4 xeB4_0 xlB2 xeB2_0 xeB2_1 B2 O3 B4
  go_wp2
  clear z1 z2 z3
  obtain ⟨ga, rfl, hga1, hga2⟩ := O5.at_ (by omega)
  have q0 := own_int O5 HLi.out
  have ST := sl_vi_take O5.sl (k := i) (by omega)
  have SR := O6.sl
  have hcap := O5.cap
  have s1 : IntKind.i64.wrap ((i : Int) + 1) = (i : Int) + 1 := IntWalk.i64_in _ (by omega)
  have s2 : ((i : Int) + 1).toNat = i + 1 := by omega
  have s3 : 0 ≤ (i : Int) + 1 := by omega
  have s4 : (i : Int) + 1 ≤ (L.length : Int) := by omega
  have s5 : (0 : Int) ≤ (i : Int) := by omega
  have s6 : (i : Int) ≤ (L.length : Int) := by omega
  have s7 : (i : Int) ≤ (c5 : Int) := by omega
  have s8 : (L.length : Int) ≤ (c5 : Int) := by omega
  have s9 : (i : Int) + 1 ≤ (c5 : Int) := by omega
  rcases Nat.lt_or_ge (i + 1) c5 with hic | hic
  · have SD := sl_vi_drop O5.sl (i := i + 1) (by omega)
    rw [Nat.zero_add] at SD
    have hic2 : ¬ c5 = i + 1 := by omega
    go_region_held3 (fun w' => w'.cell? ⟨ga, i, none⟩ = some (.int .i64 id)) (simp [go_sem, *]) ((first
      | (refine stepg_append_new slt_ints (wB := W5) (W := W5) (Bel.refl _) (by (try simp only [ext_ext]); repeat (first | exact Bel.refl _ | assumption | refine Bel.drew ?_ | refine bel_and ?_ _ | refine bel_drews ?_ _ | refine Bel.ext ?_ _ | refine Bel.alloc ?_ _ | refine Bel.drewN ?_ _)) ST (by (try simp only [ext_ext]); repeat (first | exact Bel.refl _ | assumption | refine Bel.drew ?_ | refine bel_and ?_ _ | refine bel_drews ?_ _ | refine Bel.ext ?_ _ | refine Bel.alloc ?_ _ | refine Bel.drewN ?_ _)) (vi_one _) (fun h => by cases h) (by omega) (by first | rfl | simp [Region.wanted, yielded]) _ _ rfl rfl rfl (by simp [go_sem]) ?_; rintro A7 c7 y7 own7)
      | (refine stepg_append_any slt_ints (wB := W5) (by (try simp only [ext_ext]); repeat (first | exact Bel.refl _ | assumption | refine Bel.drew ?_ | refine bel_and ?_ _ | refine bel_drews ?_ _ | refine Bel.ext ?_ _ | refine Bel.alloc ?_ _ | refine Bel.drewN ?_ _)) own7 (by (try simp only [ext_ext]); repeat (first | exact Bel.refl _ | assumption | refine Bel.drew ?_ | refine bel_and ?_ _ | refine bel_drews ?_ _ | refine Bel.ext ?_ _ | refine Bel.alloc ?_ _ | refine Bel.drewN ?_ _)) SD (by (try simp only [ext_ext]); repeat (first | exact Bel.refl _ | assumption | refine Bel.drew ?_ | refine bel_and ?_ _ | refine bel_drews ?_ _ | refine Bel.ext ?_ _ | refine Bel.alloc ?_ _ | refine Bel.drewN ?_ _)) (vi_one _) (fun h => by cases h) (by omega) (by first | rfl | simp [Region.wanted, yielded]) _ _ rfl rfl rfl ?_; rintro A8 c8 y8 own8)
      | (go_at_call 34; (with_reducible refine (same_joined A6 c6 own8 HRe.out HLL.out HRL.out HL.out (SR.bel (by (try simp only [ext_ext]); repeat (first | exact Bel.refl _ | assumption | refine Bel.drew ?_ | refine bel_and ?_ _ | refine bel_drews ?_ _ | refine Bel.ext ?_ _ | refine Bel.alloc ?_ _ | refine Bel.drewN ?_ _)))).mono ?_); rintro e _ ⟨rfl, n8, rfl⟩)
      | (go_at_call 57; (with_reducible refine (alive03_any _).mono ?_); rintro e _ ⟨rfl, n9, rfl⟩)))
    go_wp2
    (go_ret; exact ⟨ret_bool (by rfl), ext_of (by (try simp only [ext_ext]); repeat (first | exact Bel.refl _ | assumption | refine bel_and ?_ _ | refine bel_drews ?_ _ | refine Bel.ext ?_ _ | refine Bel.alloc ?_ _ | refine Bel.drewN ?_ _))⟩)
  · have hie : L.length = i + 1 := by omega
    have HIE := Lib.hid hie
    clear s7 s8 s9
    obtain rfl : c5 = i + 1 := by omega
    clear hie hic hcap
    have s7 : (i : Int) ≤ (i : Int) + 1 := by omega
    have s9 : (i : Int) + 1 ≤ (i : Int) + 1 := by omega
    have SD : Sl W5 1 (some ⟨ga, 0, none⟩) (L.length - (i + 1)) 0 (vi (L.drop (i + 1))) := by rw [List.drop_of_length_le (by have := HIE.out; omega), show L.length - (i + 1) = 0 by have := HIE.out; omega]; exact Sl.nil_ _ _ _ _
    go_region_held3 (fun w' => w'.cell? ⟨ga, i, none⟩ = some (.int .i64 id)) (simp [go_sem, *]) ((first
      | (refine stepg_append_new slt_ints (wB := W5) (W := W5) (Bel.refl _) (by (try simp only [ext_ext]); repeat (first | exact Bel.refl _ | assumption | refine Bel.drew ?_ | refine bel_and ?_ _ | refine bel_drews ?_ _ | refine Bel.ext ?_ _ | refine Bel.alloc ?_ _ | refine Bel.drewN ?_ _)) ST (by (try simp only [ext_ext]); repeat (first | exact Bel.refl _ | assumption | refine Bel.drew ?_ | refine bel_and ?_ _ | refine bel_drews ?_ _ | refine Bel.ext ?_ _ | refine Bel.alloc ?_ _ | refine Bel.drewN ?_ _)) (vi_one _) (fun h => by cases h) (by omega) (by first | rfl | simp [Region.wanted, yielded]) _ _ rfl rfl rfl (by simp [go_sem]) ?_; rintro A7 c7 y7 own7)
      | (refine stepg_append_any slt_ints (wB := W5) (by (try simp only [ext_ext]); repeat (first | exact Bel.refl _ | assumption | refine Bel.drew ?_ | refine bel_and ?_ _ | refine bel_drews ?_ _ | refine Bel.ext ?_ _ | refine Bel.alloc ?_ _ | refine Bel.drewN ?_ _)) own7 (by (try simp only [ext_ext]); repeat (first | exact Bel.refl _ | assumption | refine Bel.drew ?_ | refine bel_and ?_ _ | refine bel_drews ?_ _ | refine Bel.ext ?_ _ | refine Bel.alloc ?_ _ | refine Bel.drewN ?_ _)) SD (by (try simp only [ext_ext]); repeat (first | exact Bel.refl _ | assumption | refine Bel.drew ?_ | refine bel_and ?_ _ | refine bel_drews ?_ _ | refine Bel.ext ?_ _ | refine Bel.alloc ?_ _ | refine Bel.drewN ?_ _)) (vi_one _) (fun h => by cases h) (by omega) (by first | rfl | simp [Region.wanted, yielded]) _ _ rfl rfl rfl ?_; rintro A8 c8 y8 own8)
      | (go_at_call 34; (with_reducible refine (same_joined A6 c6 own8 HRe.out HLL.out HRL.out HL.out (SR.bel (by (try simp only [ext_ext]); repeat (first | exact Bel.refl _ | assumption | refine Bel.drew ?_ | refine bel_and ?_ _ | refine bel_drews ?_ _ | refine Bel.ext ?_ _ | refine Bel.alloc ?_ _ | refine Bel.drewN ?_ _)))).mono ?_); rintro e _ ⟨rfl, n8, rfl⟩)
      | (go_at_call 57; (with_reducible refine (alive03_any _).mono ?_); rintro e _ ⟨rfl, n9, rfl⟩)))
    go_wp2
    (go_ret; exact ⟨ret_bool (by rfl), ext_of (by (try simp only [ext_ext]); repeat (first | exact Bel.refl _ | assumption | refine bel_and ?_ _ | refine bel_drews ?_ _ | refine Bel.ext ?_ _ | refine Bel.alloc ?_ _ | refine Bel.drewN ?_ _))⟩)
theorem fless_walk (A : Option Addr) (c : Nat) (l : List Pt) (n d id : Int) (w : World) (hs : Sl w 3 A l.length c (vp l)) (hn : A = none → c = 0) (hN : -9223372036854775808 ≤ n ∧ n ≤ 9223372036854775807) (hD : -9223372036854775808 ≤ d ∧ d ≤ 9223372036854775807) :
    Calls Try.prog 11 #[.agg #[.slice A l.length c], .agg #[.int .i64 n, .int .i64 d], .int .i64 id] w fun e w' => e = .returned (.bool true) ∧ ∃ x, w' = ext w x := by
  cases hf : (!great l.length && timed l n d == 0) with
  | false => exact fless_unfit A c l n d id w hs hn hN hD hf
  | true =>
    cases hb : hasB l id with
    | false => exact fless_none A c l n d id w hs hn hN hD hf hb
    | true => exact fless_there A c l n d id w hs hn hN hD hf hb
set_option maxRecDepth 100000 in
theorem fieldLess_lifted (os : Os) (started : os.Started) (H : Type) (enc : TypeId × Value → H) :
    ReturnsInHanded {} Try.checked os 11 .any (Rows.fieldLessSpec.pre6 enc Try.prog Try.f11 Rows.fieldLessRow.domain false) (Rows.fieldLessSpec.post enc Try.prog Try.f11 false true false false) := by
  refine returnsInHanded_of_change (C := Try.checked) ownKnob_ started (by kernel_rfl) Try.func11
    (ChangeSpec.witness6 (enc := enc) (C := Try.checked) false ⟨#[], #[.agg #[.slice none 0 0], .agg #[.int .i64 0, .int .i64 0], .int .i64 0], []⟩ 8 (by kernel_rfl) (by kernel_rfl) (by kernel_rfl) (by kernel_rfl)) ?_
  intro W base args ds gs before hval0 hW hcnd _
  have hval : ∀ (j : Nat) t v, Try.f11.params[j]? = some t → args[j]? = some v → Value.okWide Try.prog W .any base t v := hval0
  have hW' := hW
  obtain ⟨p, q, hA0, hV, rfl, hfz, hnd⟩ := hW
  have hA : DataW.TrodAll enc Try.prog W 0 (fun _ => true) true Try.f11.params.toList args.toList ds p := hA0
  rw [Try.params11] at hA hval
  obtain ⟨v0, vs0, d0, ds0, p0, q0, hargs, rfl, rfl, h0, r0⟩ := trodAll_cons hA
  obtain ⟨v1, vs1, d1, ds1, p1, q1, rfl, rfl, rfl, h1, r1⟩ := trodAll_cons r0
  obtain ⟨v2, vs2, d2, ds2, p2, q2, rfl, rfl, rfl, h2, r2⟩ := trodAll_cons r1
  obtain ⟨rfl, rfl, rfl⟩ := trodAll_nil r2
  obtain rfl : args = #[v0, v1, v2] := by cases args; simp_all
  obtain ⟨rfl, rfl⟩ := trodVars_none hV
  have k0_ := h0
  have lt0 : ∀ x ∈ p0, x.block < W.heap.size := by obtain ⟨m, hm⟩ := k0_; exact DataW.trod_lt m _ _ _ hm
  have k1_ := h1
  have lt1 : ∀ x ∈ p1, x.block < W.heap.size := by obtain ⟨m, hm⟩ := k1_; exact DataW.trod_lt m _ _ _ hm
  have k2_ := h2
  have lt2 : ∀ x ∈ p2, x.block < W.heap.size := by obtain ⟨m, hm⟩ := k2_; exact DataW.trod_lt m _ _ _ hm
  obtain ⟨cs0, rfl, hsz0⟩ := okWide_struct Try.underlying24 (hval 0 24 v0 rfl rfl)
  obtain ⟨l0⟩ := cs0
  obtain ⟨fuel0, hf0⟩ := h0
  obtain ⟨A0, c0, l0, rfl, hsl0, hnil0, hfit0⟩ := field_cells hf0 (by rw [cellsF_field] at hsz0; exact hsz0)
  obtain ⟨cs1, rfl, hsz1⟩ := okWide_struct Try.underlying49 (hval 1 49 v1 rfl rfl)
  obtain ⟨l1⟩ := cs1
  obtain ⟨fuel1, hf1⟩ := h1
  obtain ⟨n1, d1, rfl, hfitn1, hfitd1⟩ := ratio_cells hf1 (by rw [cellsF_ratio] at hsz1; exact hsz1)
  obtain ⟨i2, rfl, hfit2⟩ := okWide_int Try.underlying3 (hval 2 3 v2 rfl rfl)
  clear hA0 hval0
  refine (fless_walk A0 c0 l0 n1 d1 i2 _ hsl0 hnil0 hfitn1 hfitd1).mono fun e W' ⟨he, hx⟩ => ?_
  have bel : Below W.heap.size W W' := (bel_of hx).toBelow
  subst he
  exact ⟨_, rfl, _, _, _, [], _, [], hW', trodAll_mk1 (shut_bool Try.underlying4 _), (trodAll_cons_mk (Below.trod laidOut_ (by kernel_rfl) (of_decide_eq_true (by kernel_rfl)) k0_ bel lt0) (trodAll_cons_mk (Below.trod laidOut_ (by kernel_rfl) (of_decide_eq_true (by kernel_rfl)) k1_ bel lt1) (trodAll_cons_mk (Below.trod laidOut_ (by kernel_rfl) (of_decide_eq_true (by kernel_rfl)) k2_ bel lt2) trodAll_mk0))), rfl, bel.frame _, fun h => by cases h⟩
theorem fieldLess_over : Rows.fieldLessRow.holds Try.pinned (OpenSpec.ofChange Rows.fieldLessSpec) :=
  OpenClaim.holds_of_wide 11 Try.f11 rfl rfl rfl rfl rfl rfl rfl ⟨rfl, rfl, rfl, rfl, rfl⟩ rfl rfl rfl rfl rfl (by kernel_rfl) Try.func11 (by kernel_rfl)
    (of_decide_eq_true (by kernel_rfl)) (by unfold Func.isWrapper; rw [if_neg (of_decide_eq_false (by kernel_rfl))]; exact ⟨rfl, rfl⟩)
    (fun os started H enc _ => fieldLess_lifted os started H enc)
/-- The statement. -/
theorem fieldLess_holds : Rows.FieldLessSaid := fieldLess_over
end Go.Proofs.Ytkcpnclgcmnlcaa
