/- For every field, point and ID: field's New, Check, Find, Put, Take and Change return what the reference returns, and share no memory with the field: the statement FieldSets. No condition. (Printed by genfsets.py.) -/
import Derived.Test.YtkcpnclgcmnlcaaFld7
import Derived.Test.YtkcpnclgcmnlcaaFld10
import Derived.Test.YtkcpnclgcmnlcaaLaw
import Derived.Test.YtkcpnclgcmnlcaaArgsF
set_option linter.unusedSimpArgs false
set_option linter.unusedVariables false

namespace Go.Proofs.Ytkcpnclgcmnlcaa
open Go.ChangeShapes Go.WideShapes Go.ChangeAt Go.RowKit Go.Pel
attribute [local go_sem ↓] equal_pt
theorem vp_setA {m : List Pt} {k : Nat} {x : Pt} (hx : m[k]? = some x) (v : Int) : vp (m.set k ⟨x.id, v, x.b⟩) = (vp m).set (k * 3 + 1) (.int .i64 v) := by
  rw [vp_set]
  have h0 := fl_at pt_len hx 0 (by omega)
  have h2 := fl_at pt_len hx 2 (by omega)
  have e0 : (vp m).set (k * 3) (.int .i64 x.id) = vp m := by
    apply List.ext_getElem?; intro j
    rw [List.getElem?_set]
    split
    · rename_i h; subst h
      split
      · exact h0.symm
      · rename_i h; rw [List.getElem?_eq_none (by omega)]
    · rfl
  rw [e0]
  apply List.ext_getElem?; intro j
  rw [List.getElem?_set]
  split
  · rename_i h; subst h
    split
    · rw [List.getElem?_set_ne (by omega)]
      exact h2.symm
    · rename_i h; rw [List.length_set] at h; rw [List.getElem?_eq_none (by rw [List.length_set]; omega)]
  · rfl
theorem put_le (l : List Pt) (p : Pt) : (fieldPut l p).1.length ≤ 1000 := by
  unfold fieldPut
  split
  · simp
  · rename_i h
    have := (fieldChk_zero (by simpa using h)).1
    split
    · simp
    · split
      · simp
      · split
        · simp
        · simp only [List.length_append, List.length_take, List.length_cons, List.length_drop]; omega
theorem take_le (l : List Pt) (id : Int) : (fieldTake l id).1.length ≤ 1000 := by
  unfold fieldTake
  split
  · simp
  · rename_i h
    have := (fieldChk_zero (by simpa using h)).1
    split
    · simp only [List.length_append, List.length_take, List.length_drop]; omega
    · simp
theorem change_le (l : List Pt) (p : Pt) : (fieldChange l p).1.length ≤ 1000 := by
  unfold fieldChange
  split
  · simp
  · rename_i h
    have := (fieldChk_zero (by simpa using h)).1
    split
    · simp
    · split
      · simp only [List.length_set]; omega
      · simp
set_option maxRecDepth 10000 in
set_option maxHeartbeats 4000000 in
theorem fsets_walk (A : Option Addr) (c : Nat) (l : List Pt) (p : Pt) (id : Int) (w : World) (hs : Sl w 3 A l.length c (vp l)) (hn : A = none → c = 0) :
    Calls Try.prog 3 #[.agg #[.slice A l.length c], .agg #[.int .i64 p.id, .int .i64 p.a, .int .i64 p.b], .int .i64 id] w fun e w' => e = .returned (.bool true) ∧ ∃ x, w' = ext w x := by
  cases hg : great l.length with
  | true =>
    have q := Lib.hid (fun W => great_any A l.length c W)
    rw [hg] at q
    clear hg
    go_enter Try.func3, Try.ntmps3
    go_wp2_with ((go_at_call 15; refine (q.out _).mono ?_; rintro e _ ⟨rfl, nx, rfl⟩))
    (go_ret; exact ⟨ret_bool (by rfl), ext_of (by (try simp only [ext_ext]); repeat (first | exact Bel.refl _ | assumption | refine bel_and ?_ _ | refine bel_drews ?_ _ | refine Bel.ext ?_ _ | refine Bel.alloc ?_ _ | refine Bel.drewN ?_ _))⟩)
  | false =>
    have q := Lib.hid (fun W => great_any A l.length c W)
    rw [hg] at q
    have hl : l.length ≤ 70 := by unfold great at hg; simp at hg; omega
    have HL := Lib.hid hl
    clear hg hl
    have S0 := hs
    have HN := Lib.hid hn
    clear hn
    go_enter Try.func3, Try.ntmps3
    go_wp2_with fail
    refine (q.out _).mono ?_
    rintro e W1 ⟨rfl, hq⟩
    have hxb : Bel ((w.alloc (.cells #[.slice A l.length c] 24)).alloc (.cells #[.int .i64 p.id, .int .i64 p.a, .int .i64 p.b] 26)) W1 := by obtain ⟨y, hy⟩ := hq; rw [hy]; exact (by (try simp only [ext_ext]); repeat (first | exact Bel.refl _ | assumption | refine bel_and ?_ _ | refine bel_drews ?_ _ | refine Bel.ext ?_ _ | refine Bel.alloc ?_ _ | refine Bel.drewN ?_ _))
    have hb : Bel w W1 := Bel.trans (by (try simp only [ext_ext]); repeat (first | exact Bel.refl _ | assumption | refine bel_and ?_ _ | refine bel_drews ?_ _ | refine Bel.ext ?_ _ | refine Bel.alloc ?_ _ | refine Bel.drewN ?_ _)) hxb
    have F0 : Held W1 w.heap.size 0 (.slice A l.length c) := (Held.new (W' := (w.alloc (.cells #[.slice A l.length c] 24)).alloc (.cells #[.int .i64 p.id, .int .i64 p.a, .int .i64 p.b] 26)) (by (try simp only [ext_ext]); repeat (first | exact Bel.refl _ | assumption | refine bel_and ?_ _ | refine bel_drews ?_ _ | refine Bel.ext ?_ _ | refine Bel.alloc ?_ _ | refine Bel.drewN ?_ _)) rfl).bel hxb
    have P0 : Held W1 (w.heap.size + 1) 0 (.int .i64 p.id) := by have := Held.new (j := 0) hxb (v := .int .i64 p.id) rfl; simpa using this
    have P1 : Held W1 (w.heap.size + 1) 1 (.int .i64 p.a) := by have := Held.new (j := 1) hxb (v := .int .i64 p.a) rfl; simpa using this
    have P2 : Held W1 (w.heap.size + 1) 2 (.int .i64 p.b) := by have := Held.new (j := 2) hxb (v := .int .i64 p.b) rfl; simpa using this
    replace S0 := S0.bel hb
    have h01 := hb.le
    clear hq hxb q hs
    have xe0 := F0.eq
    have xl0 := F0.lt
    have xz0 := F0.fr
    go_wp2_with (fail)
    refine (twin_any A c l _ (S0.bel (by (try simp only [ext_ext]); repeat (first | exact Bel.refl _ | assumption | refine bel_and ?_ _ | refine bel_drews ?_ _ | refine Bel.ext ?_ _ | refine Bel.alloc ?_ _ | refine Bel.drewN ?_ _))) HN.out (by have := HL.out; omega)).mono ?_
    rintro e W2 ⟨A1, c1, rfl, hq⟩
    have hq1 := own_split hq
    have hx : Bel W1 W2 := Bel.trans (show Bel W1 _ from (by (try simp only [ext_ext]); repeat (first | exact Bel.refl _ | assumption | refine bel_and ?_ _ | refine bel_drews ?_ _ | refine Bel.ext ?_ _ | refine Bel.alloc ?_ _ | refine Bel.drewN ?_ _))) (bel_of hq1)
    have O1 := own_here hq
    clear hq hq1
    replace S0 := S0.bel hx
    replace F0 := F0.bel hx
    replace P0 := P0.bel hx
    replace P1 := P1.bel hx
    replace P2 := P2.bel hx
    replace hb := hb.trans hx
    clear hx xe0 xl0 xz0
    have G1 := O1.shape
    have M : W2.heap.size ≤ W2.heap.size := Nat.le_refl _
    have xe0 := F0.eq
    have xl0 := F0.lt
    have xz0 := F0.fr
    go_wp2_with (fail)
    refine (fieldFind_any A1 c1 l id _ (O1.sl.bel (by (try simp only [ext_ext]); repeat (first | exact Bel.refl _ | assumption | refine bel_and ?_ _ | refine bel_drews ?_ _ | refine Bel.ext ?_ _ | refine Bel.alloc ?_ _ | refine Bel.drewN ?_ _)))).mono ?_
    rintro e W3 ⟨rfl, hq⟩
    have hq1 := hq
    have hx : Bel W2 W3 := Bel.trans (show Bel W2 _ from (by (try simp only [ext_ext]); repeat (first | exact Bel.refl _ | assumption | refine bel_and ?_ _ | refine bel_drews ?_ _ | refine Bel.ext ?_ _ | refine Bel.alloc ?_ _ | refine Bel.drewN ?_ _))) (bel_of hq1)
    have hxb : Bel (W2.alloc (.cells #[.slice A1 l.length c1] 24)) W3 := by obtain ⟨y, hy⟩ := hq1; rw [hy]; exact (by (try simp only [ext_ext]); repeat (first | exact Bel.refl _ | assumption | refine bel_and ?_ _ | refine bel_drews ?_ _ | refine Bel.ext ?_ _ | refine Bel.alloc ?_ _ | refine Bel.drewN ?_ _))
    have B0 : Held W3 W2.heap.size 0 (.slice A1 l.length c1) := Held.new hxb (by rfl)
    clear hxb
    have mB : W2.heap.size ≤ W2.heap.size := M
    replace M := Nat.le_trans M hx.le
    clear hq hq1
    replace S0 := S0.bel hx
    replace F0 := F0.bel hx
    replace P0 := P0.bel hx
    replace P1 := P1.bel hx
    replace P2 := P2.bel hx
    replace O1 := O1.bel hx
    replace hb := hb.trans hx
    clear hx xe0 xl0 xz0
    have xe0 := F0.eq
    have xl0 := F0.lt
    have xz0 := F0.fr
    have xe1 := B0.eq
    have xl1 := B0.lt
    have xz1 := B0.fr
    go_wp2_with (fail)
    refine (refFind_any A c l id _ (S0.bel (by (try simp only [ext_ext]); repeat (first | exact Bel.refl _ | assumption | refine bel_and ?_ _ | refine bel_drews ?_ _ | refine Bel.ext ?_ _ | refine Bel.alloc ?_ _ | refine Bel.drewN ?_ _)))).mono ?_
    rintro e W4 ⟨rfl, hq⟩
    have hq1 := hq
    have hx : Bel W3 W4 := Bel.trans (show Bel W3 _ from (by (try simp only [ext_ext]); repeat (first | exact Bel.refl _ | assumption | refine bel_and ?_ _ | refine bel_drews ?_ _ | refine Bel.ext ?_ _ | refine Bel.alloc ?_ _ | refine Bel.drewN ?_ _))) (bel_of hq1)
    have hxb : Bel (W3.alloc (.cells #[.int .i64 (fieldFind l id).1.id, .int .i64 (fieldFind l id).1.a, .int .i64 (fieldFind l id).1.b] 26)) W4 := by obtain ⟨y, hy⟩ := hq1; rw [hy]; exact (by (try simp only [ext_ext]); repeat (first | exact Bel.refl _ | assumption | refine bel_and ?_ _ | refine bel_drews ?_ _ | refine Bel.ext ?_ _ | refine Bel.alloc ?_ _ | refine Bel.drewN ?_ _))
    have C0 : Held W4 W3.heap.size 0 (.int .i64 (fieldFind l id).1.id) := Held.new hxb (by rfl)
    have C1 : Held W4 W3.heap.size 1 (.int .i64 (fieldFind l id).1.a) := Held.new hxb (by rfl)
    have C2 : Held W4 W3.heap.size 2 (.int .i64 (fieldFind l id).1.b) := Held.new hxb (by rfl)
    clear hxb
    have mC : W2.heap.size ≤ W3.heap.size := M
    replace M := Nat.le_trans M hx.le
    clear hq hq1
    replace S0 := S0.bel hx
    replace F0 := F0.bel hx
    replace P0 := P0.bel hx
    replace P1 := P1.bel hx
    replace P2 := P2.bel hx
    replace O1 := O1.bel hx
    replace B0 := B0.bel hx
    replace hb := hb.trans hx
    clear hx xe0 xl0 xz0 xe1 xl1 xz1
    have xe0 := F0.eq
    have xl0 := F0.lt
    have xz0 := F0.fr
    have xe1 := B0.eq
    have xl1 := B0.lt
    have xz1 := B0.fr
    have xe2 := P0.eq
    have xl2 := P0.lt
    have xz2 := P0.fr
    have xe3 := P1.eq
    have xl3 := P1.lt
    have xz3 := P1.fr
    have xe4 := P2.eq
    have xl4 := P2.lt
    have xz4 := P2.fr
    go_wp2_with (fail)
    refine (fieldPut_any A1 c1 l p _ (O1.sl.bel (by (try simp only [ext_ext]); repeat (first | exact Bel.refl _ | assumption | refine bel_and ?_ _ | refine bel_drews ?_ _ | refine Bel.ext ?_ _ | refine Bel.alloc ?_ _ | refine Bel.drewN ?_ _))) O1.nilc).mono ?_
    rintro e W5 ⟨A2, c2, rfl, hq⟩
    have hq1 := own_split hq
    have hx : Bel W4 W5 := Bel.trans (show Bel W4 _ from (by (try simp only [ext_ext]); repeat (first | exact Bel.refl _ | assumption | refine bel_and ?_ _ | refine bel_drews ?_ _ | refine Bel.ext ?_ _ | refine Bel.alloc ?_ _ | refine Bel.drewN ?_ _))) (bel_of hq1)
    have hxb : Bel (W4.alloc (.cells #[.int .i64 (fieldFind l id).1.id, .int .i64 (fieldFind l id).1.a, .int .i64 (fieldFind l id).1.b] 26)) W5 := by obtain ⟨y, hy⟩ := hq1; rw [hy]; exact (by (try simp only [ext_ext]); repeat (first | exact Bel.refl _ | assumption | refine bel_and ?_ _ | refine bel_drews ?_ _ | refine Bel.ext ?_ _ | refine Bel.alloc ?_ _ | refine Bel.drewN ?_ _))
    have D0 : Held W5 W4.heap.size 0 (.int .i64 (fieldFind l id).1.id) := Held.new hxb (by rfl)
    have D1 : Held W5 W4.heap.size 1 (.int .i64 (fieldFind l id).1.a) := Held.new hxb (by rfl)
    have D2 : Held W5 W4.heap.size 2 (.int .i64 (fieldFind l id).1.b) := Held.new hxb (by rfl)
    clear hxb
    have O2 := own_here hq
    have mD : W2.heap.size ≤ W4.heap.size := M
    have nO2 := fun (g : Nat) (hg : g < W2.heap.size) => O2.ne (g := g) (by have := M; simp; omega)
    replace M := Nat.le_trans M hx.le
    clear hq hq1
    replace S0 := S0.bel hx
    replace F0 := F0.bel hx
    replace P0 := P0.bel hx
    replace P1 := P1.bel hx
    replace P2 := P2.bel hx
    replace O1 := O1.bel hx
    replace B0 := B0.bel hx
    replace C0 := C0.bel hx
    replace C1 := C1.bel hx
    replace C2 := C2.bel hx
    replace hb := hb.trans hx
    clear hx xe0 xl0 xz0 xe1 xl1 xz1 xe2 xl2 xz2 xe3 xl3 xz3 xe4 xl4 xz4
    have xe0 := F0.eq
    have xl0 := F0.lt
    have xz0 := F0.fr
    have xe1 := P0.eq
    have xl1 := P0.lt
    have xz1 := P0.fr
    have xe2 := P1.eq
    have xl2 := P1.lt
    have xz2 := P1.fr
    have xe3 := P2.eq
    have xl3 := P2.lt
    have xz3 := P2.fr
    go_wp2_with (fail)
    refine (refPut_any A c l p _ (S0.bel (by (try simp only [ext_ext]); repeat (first | exact Bel.refl _ | assumption | refine bel_and ?_ _ | refine bel_drews ?_ _ | refine Bel.ext ?_ _ | refine Bel.alloc ?_ _ | refine Bel.drewN ?_ _)))).mono ?_
    rintro e W6 ⟨A3, c3, rfl, hq⟩
    have hq1 := own_split hq
    have hx : Bel W5 W6 := Bel.trans (show Bel W5 _ from (by (try simp only [ext_ext]); repeat (first | exact Bel.refl _ | assumption | refine bel_and ?_ _ | refine bel_drews ?_ _ | refine Bel.ext ?_ _ | refine Bel.alloc ?_ _ | refine Bel.drewN ?_ _))) (bel_of hq1)
    have hxb : Bel (W5.alloc (.cells #[.slice A2 (fieldPut l p).1.length c2] 24)) W6 := by obtain ⟨y, hy⟩ := hq1; rw [hy]; exact (by (try simp only [ext_ext]); repeat (first | exact Bel.refl _ | assumption | refine bel_and ?_ _ | refine bel_drews ?_ _ | refine Bel.ext ?_ _ | refine Bel.alloc ?_ _ | refine Bel.drewN ?_ _))
    have E0 : Held W6 W5.heap.size 0 (.slice A2 (fieldPut l p).1.length c2) := Held.new hxb (by rfl)
    clear hxb
    have O3 := own_here hq
    have mE : W2.heap.size ≤ W5.heap.size := M
    have nO3 := fun (g : Nat) (hg : g < W2.heap.size) => O3.ne (g := g) (by have := M; simp; omega)
    replace M := Nat.le_trans M hx.le
    clear hq hq1
    replace S0 := S0.bel hx
    replace F0 := F0.bel hx
    replace P0 := P0.bel hx
    replace P1 := P1.bel hx
    replace P2 := P2.bel hx
    replace O1 := O1.bel hx
    replace B0 := B0.bel hx
    replace C0 := C0.bel hx
    replace C1 := C1.bel hx
    replace C2 := C2.bel hx
    replace D0 := D0.bel hx
    replace D1 := D1.bel hx
    replace D2 := D2.bel hx
    replace O2 := O2.bel hx
    replace hb := hb.trans hx
    clear hx xe0 xl0 xz0 xe1 xl1 xz1 xe2 xl2 xz2 xe3 xl3 xz3
    have xe0 := B0.eq
    have xl0 := B0.lt
    have xz0 := B0.fr
    go_wp2_with (fail)
    refine (fieldTake_any A1 c1 l id _ (O1.sl.bel (by (try simp only [ext_ext]); repeat (first | exact Bel.refl _ | assumption | refine bel_and ?_ _ | refine bel_drews ?_ _ | refine Bel.ext ?_ _ | refine Bel.alloc ?_ _ | refine Bel.drewN ?_ _))) O1.nilc).mono ?_
    rintro e W7 ⟨A4, c4, rfl, hq⟩
    have hq1 := own_split hq
    have hx : Bel W6 W7 := Bel.trans (show Bel W6 _ from (by (try simp only [ext_ext]); repeat (first | exact Bel.refl _ | assumption | refine bel_and ?_ _ | refine bel_drews ?_ _ | refine Bel.ext ?_ _ | refine Bel.alloc ?_ _ | refine Bel.drewN ?_ _))) (bel_of hq1)
    have hxb : Bel (W6.alloc (.cells #[.slice A3 (fieldPut l p).1.length c3] 24)) W7 := by obtain ⟨y, hy⟩ := hq1; rw [hy]; exact (by (try simp only [ext_ext]); repeat (first | exact Bel.refl _ | assumption | refine bel_and ?_ _ | refine bel_drews ?_ _ | refine Bel.ext ?_ _ | refine Bel.alloc ?_ _ | refine Bel.drewN ?_ _))
    have G0 : Held W7 W6.heap.size 0 (.slice A3 (fieldPut l p).1.length c3) := Held.new hxb (by rfl)
    clear hxb
    have O4 := own_here hq
    have mG : W2.heap.size ≤ W6.heap.size := M
    have nO4 := fun (g : Nat) (hg : g < W2.heap.size) => O4.ne (g := g) (by have := M; simp; omega)
    replace M := Nat.le_trans M hx.le
    clear hq hq1
    replace S0 := S0.bel hx
    replace F0 := F0.bel hx
    replace P0 := P0.bel hx
    replace P1 := P1.bel hx
    replace P2 := P2.bel hx
    replace O1 := O1.bel hx
    replace B0 := B0.bel hx
    replace C0 := C0.bel hx
    replace C1 := C1.bel hx
    replace C2 := C2.bel hx
    replace D0 := D0.bel hx
    replace D1 := D1.bel hx
    replace D2 := D2.bel hx
    replace O2 := O2.bel hx
    replace E0 := E0.bel hx
    replace O3 := O3.bel hx
    replace hb := hb.trans hx
    clear hx xe0 xl0 xz0
    have xe0 := F0.eq
    have xl0 := F0.lt
    have xz0 := F0.fr
    go_wp2_with (fail)
    refine (refTake_any A c l id _ (S0.bel (by (try simp only [ext_ext]); repeat (first | exact Bel.refl _ | assumption | refine bel_and ?_ _ | refine bel_drews ?_ _ | refine Bel.ext ?_ _ | refine Bel.alloc ?_ _ | refine Bel.drewN ?_ _)))).mono ?_
    rintro e W8 ⟨A5, c5, rfl, hq⟩
    have hq1 := own_split hq
    have hx : Bel W7 W8 := Bel.trans (show Bel W7 _ from (by (try simp only [ext_ext]); repeat (first | exact Bel.refl _ | assumption | refine bel_and ?_ _ | refine bel_drews ?_ _ | refine Bel.ext ?_ _ | refine Bel.alloc ?_ _ | refine Bel.drewN ?_ _))) (bel_of hq1)
    have hxb : Bel (W7.alloc (.cells #[.slice A4 (fieldTake l id).1.length c4] 24)) W8 := by obtain ⟨y, hy⟩ := hq1; rw [hy]; exact (by (try simp only [ext_ext]); repeat (first | exact Bel.refl _ | assumption | refine bel_and ?_ _ | refine bel_drews ?_ _ | refine Bel.ext ?_ _ | refine Bel.alloc ?_ _ | refine Bel.drewN ?_ _))
    have H0 : Held W8 W7.heap.size 0 (.slice A4 (fieldTake l id).1.length c4) := Held.new hxb (by rfl)
    clear hxb
    have O5 := own_here hq
    have mH : W2.heap.size ≤ W7.heap.size := M
    have nO5 := fun (g : Nat) (hg : g < W2.heap.size) => O5.ne (g := g) (by have := M; simp; omega)
    replace M := Nat.le_trans M hx.le
    clear hq hq1
    replace S0 := S0.bel hx
    replace F0 := F0.bel hx
    replace P0 := P0.bel hx
    replace P1 := P1.bel hx
    replace P2 := P2.bel hx
    replace O1 := O1.bel hx
    replace B0 := B0.bel hx
    replace C0 := C0.bel hx
    replace C1 := C1.bel hx
    replace C2 := C2.bel hx
    replace D0 := D0.bel hx
    replace D1 := D1.bel hx
    replace D2 := D2.bel hx
    replace O2 := O2.bel hx
    replace E0 := E0.bel hx
    replace O3 := O3.bel hx
    replace G0 := G0.bel hx
    replace O4 := O4.bel hx
    replace hb := hb.trans hx
    clear hx xe0 xl0 xz0
    have xe0 := B0.eq
    have xl0 := B0.lt
    have xz0 := B0.fr
    have xe1 := P0.eq
    have xl1 := P0.lt
    have xz1 := P0.fr
    have xe2 := P1.eq
    have xl2 := P1.lt
    have xz2 := P1.fr
    have xe3 := P2.eq
    have xl3 := P2.lt
    have xz3 := P2.fr
    go_wp2_with (fail)
    refine (fieldChange_any A1 c1 l p _ (O1.sl.bel (by (try simp only [ext_ext]); repeat (first | exact Bel.refl _ | assumption | refine bel_and ?_ _ | refine bel_drews ?_ _ | refine Bel.ext ?_ _ | refine Bel.alloc ?_ _ | refine Bel.drewN ?_ _))) O1.nilc).mono ?_
    rintro e W9 ⟨A6, c6, rfl, hq⟩
    have hq1 := own_split hq
    have hx : Bel W8 W9 := Bel.trans (show Bel W8 _ from (by (try simp only [ext_ext]); repeat (first | exact Bel.refl _ | assumption | refine bel_and ?_ _ | refine bel_drews ?_ _ | refine Bel.ext ?_ _ | refine Bel.alloc ?_ _ | refine Bel.drewN ?_ _))) (bel_of hq1)
    have hxb : Bel (W8.alloc (.cells #[.slice A5 (fieldTake l id).1.length c5] 24)) W9 := by obtain ⟨y, hy⟩ := hq1; rw [hy]; exact (by (try simp only [ext_ext]); repeat (first | exact Bel.refl _ | assumption | refine bel_and ?_ _ | refine bel_drews ?_ _ | refine Bel.ext ?_ _ | refine Bel.alloc ?_ _ | refine Bel.drewN ?_ _))
    have I0 : Held W9 W8.heap.size 0 (.slice A5 (fieldTake l id).1.length c5) := Held.new hxb (by rfl)
    clear hxb
    have O6 := own_here hq
    have mI : W2.heap.size ≤ W8.heap.size := M
    have nO6 := fun (g : Nat) (hg : g < W2.heap.size) => O6.ne (g := g) (by have := M; simp; omega)
    replace M := Nat.le_trans M hx.le
    clear hq hq1
    replace S0 := S0.bel hx
    replace F0 := F0.bel hx
    replace P0 := P0.bel hx
    replace P1 := P1.bel hx
    replace P2 := P2.bel hx
    replace O1 := O1.bel hx
    replace B0 := B0.bel hx
    replace C0 := C0.bel hx
    replace C1 := C1.bel hx
    replace C2 := C2.bel hx
    replace D0 := D0.bel hx
    replace D1 := D1.bel hx
    replace D2 := D2.bel hx
    replace O2 := O2.bel hx
    replace E0 := E0.bel hx
    replace O3 := O3.bel hx
    replace G0 := G0.bel hx
    replace O4 := O4.bel hx
    replace H0 := H0.bel hx
    replace O5 := O5.bel hx
    replace hb := hb.trans hx
    clear hx xe0 xl0 xz0 xe1 xl1 xz1 xe2 xl2 xz2 xe3 xl3 xz3
    have xe0 := F0.eq
    have xl0 := F0.lt
    have xz0 := F0.fr
    have xe1 := P0.eq
    have xl1 := P0.lt
    have xz1 := P0.fr
    have xe2 := P1.eq
    have xl2 := P1.lt
    have xz2 := P1.fr
    have xe3 := P2.eq
    have xl3 := P2.lt
    have xz3 := P2.fr
    go_wp2_with (fail)
    refine (refChange_any A c l p _ (S0.bel (by (try simp only [ext_ext]); repeat (first | exact Bel.refl _ | assumption | refine bel_and ?_ _ | refine bel_drews ?_ _ | refine Bel.ext ?_ _ | refine Bel.alloc ?_ _ | refine Bel.drewN ?_ _))) HN.out).mono ?_
    rintro e W10 ⟨A7, c7, rfl, hq⟩
    have hq1 := own_split hq
    have hx : Bel W9 W10 := Bel.trans (show Bel W9 _ from (by (try simp only [ext_ext]); repeat (first | exact Bel.refl _ | assumption | refine bel_and ?_ _ | refine bel_drews ?_ _ | refine Bel.ext ?_ _ | refine Bel.alloc ?_ _ | refine Bel.drewN ?_ _))) (bel_of hq1)
    have hxb : Bel (W9.alloc (.cells #[.slice A6 (fieldChange l p).1.length c6] 24)) W10 := by obtain ⟨y, hy⟩ := hq1; rw [hy]; exact (by (try simp only [ext_ext]); repeat (first | exact Bel.refl _ | assumption | refine bel_and ?_ _ | refine bel_drews ?_ _ | refine Bel.ext ?_ _ | refine Bel.alloc ?_ _ | refine Bel.drewN ?_ _))
    have J0 : Held W10 W9.heap.size 0 (.slice A6 (fieldChange l p).1.length c6) := Held.new hxb (by rfl)
    clear hxb
    have O7 := own_here hq
    have mJ : W2.heap.size ≤ W9.heap.size := M
    have nO7 := fun (g : Nat) (hg : g < W2.heap.size) => O7.ne (g := g) (by have := M; simp; omega)
    replace M := Nat.le_trans M hx.le
    clear hq hq1
    replace S0 := S0.bel hx
    replace F0 := F0.bel hx
    replace P0 := P0.bel hx
    replace P1 := P1.bel hx
    replace P2 := P2.bel hx
    replace O1 := O1.bel hx
    replace B0 := B0.bel hx
    replace C0 := C0.bel hx
    replace C1 := C1.bel hx
    replace C2 := C2.bel hx
    replace D0 := D0.bel hx
    replace D1 := D1.bel hx
    replace D2 := D2.bel hx
    replace O2 := O2.bel hx
    replace E0 := E0.bel hx
    replace O3 := O3.bel hx
    replace G0 := G0.bel hx
    replace O4 := O4.bel hx
    replace H0 := H0.bel hx
    replace O5 := O5.bel hx
    replace I0 := I0.bel hx
    replace O6 := O6.bel hx
    replace hb := hb.trans hx
    clear hx xe0 xl0 xz0 xe1 xl1 xz1 xe2 xl2 xz2 xe3 xl3 xz3
    go_wp2
    obtain ⟨W11, hW⟩ : ∃ W, W10.alloc (.cells #[.slice A7 (fieldChange l p).1.length c7] 24) = W := ⟨_, rfl⟩
    rw [hW]
    have hx : Bel W10 W11 := by rw [← hW]; exact (by (try simp only [ext_ext]); repeat (first | exact Bel.refl _ | assumption | refine bel_and ?_ _ | refine bel_drews ?_ _ | refine Bel.ext ?_ _ | refine Bel.alloc ?_ _ | refine Bel.drewN ?_ _))
    have K0 : Held W11 W10.heap.size 0 (.slice A7 (fieldChange l p).1.length c7) := Held.new (by rw [← hW]; exact (by (try simp only [ext_ext]); repeat (first | exact Bel.refl _ | assumption | refine bel_and ?_ _ | refine bel_drews ?_ _ | refine Bel.ext ?_ _ | refine Bel.alloc ?_ _ | refine Bel.drewN ?_ _))) (cs := #[.slice A7 (fieldChange l p).1.length c7]) (e := 24) (by rfl)
    have mK : W2.heap.size ≤ W10.heap.size := M
    replace M := Nat.le_trans M hx.le
    replace S0 := S0.bel hx
    replace F0 := F0.bel hx
    replace P0 := P0.bel hx
    replace P1 := P1.bel hx
    replace P2 := P2.bel hx
    replace O1 := O1.bel hx
    replace B0 := B0.bel hx
    replace C0 := C0.bel hx
    replace C1 := C1.bel hx
    replace C2 := C2.bel hx
    replace D0 := D0.bel hx
    replace D1 := D1.bel hx
    replace D2 := D2.bel hx
    replace O2 := O2.bel hx
    replace E0 := E0.bel hx
    replace O3 := O3.bel hx
    replace G0 := G0.bel hx
    replace O4 := O4.bel hx
    replace H0 := H0.bel hx
    replace O5 := O5.bel hx
    replace I0 := I0.bel hx
    replace O6 := O6.bel hx
    replace J0 := J0.bel hx
    replace O7 := O7.bel hx
    replace hb := hb.trans hx
    clear hx hW
    have xe0 := F0.eq
    have xl0 := F0.lt
    have xz0 := F0.fr
    have xe1 := B0.eq
    have xl1 := B0.lt
    have xz1 := B0.fr
    have xe2 := C0.eq
    have xl2 := C0.lt
    have xz2 := C0.fr
    have xe3 := C1.eq
    have xl3 := C1.lt
    have xz3 := C1.fr
    have xe4 := C2.eq
    have xl4 := C2.lt
    have xz4 := C2.fr
    have xe5 := D0.eq
    have xl5 := D0.lt
    have xz5 := D0.fr
    have xe6 := D1.eq
    have xl6 := D1.lt
    have xz6 := D1.fr
    have xe7 := D2.eq
    have xl7 := D2.lt
    have xz7 := D2.fr
    have heq := eqP_yes (fieldFind l id).1
    have z1 : ((fieldChk l) == (fieldChk l)) = true := beq_self_eq_true _
    have z2 : ((fieldFind l id).2 == (fieldFind l id).2) = true := beq_self_eq_true _
    have z3 : decide (l = l) = true := decide_eq_true rfl
    ((first | refine RegC.wp_region_ext1 (by kernel_rfl) (by kernel_rfl) ?_ | refine RegC.wp_region_ext0 (by kernel_rfl) (by kernel_rfl) ?_); (repeat (any_goals (first | go_big_quiet_step (first | (go_at_call 25; exact Calls.ext_of (fieldCheck_any A1 c1 l _ (O1.sl.bel (by (try simp only [ext_ext]); repeat (first | exact Bel.refl _ | assumption | refine bel_and ?_ _ | refine bel_drews ?_ _ | refine Bel.ext ?_ _ | refine Bel.alloc ?_ _ | refine Bel.drewN ?_ _))))) | (go_at_call 26; exact Calls.ext_of (ref03Check_any A c l _ (S0.bel (by (try simp only [ext_ext]); repeat (first | exact Bel.refl _ | assumption | refine bel_and ?_ _ | refine bel_drews ?_ _ | refine Bel.ext ?_ _ | refine Bel.alloc ?_ _ | refine Bel.drewN ?_ _))))) | (go_at_call 27; exact Calls.ext_of (same03_any A1 A c1 c l l _ (O1.sl.bel (by (try simp only [ext_ext]); repeat (first | exact Bel.refl _ | assumption | refine bel_and ?_ _ | refine bel_drews ?_ _ | refine Bel.ext ?_ _ | refine Bel.alloc ?_ _ | refine Bel.drewN ?_ _))) (S0.bel (by (try simp only [ext_ext]); repeat (first | exact Bel.refl _ | assumption | refine bel_and ?_ _ | refine bel_drews ?_ _ | refine Bel.ext ?_ _ | refine Bel.alloc ?_ _ | refine Bel.drewN ?_ _))) (by have := HL.out; omega) (by have := HL.out; omega)))) | (refine RegC.wpQuiet_split rfl rfl (fun hb => ?_) (fun hb => ?_) <;> simp only [hb])))); all_goals (refine wpQuiet_nil ?_; rintro _ ⟨nq, rfl⟩))
    clear heq z1 z2 z3 xe0 xl0 xz0 xe1 xl1 xz1 xe2 xl2 xz2 xe3 xl3 xz3 xe4 xl4 xz4 xe5 xl5 xz5 xe6 xl6 xz6 xe7 xl7 xz7
    go_wp2
    obtain ⟨W12, hW⟩ : ∃ W, ext W11 nq = W := ⟨_, rfl⟩
    rw [hW]
    have hx : Bel W11 W12 := by rw [← hW]; exact (by (try simp only [ext_ext]); repeat (first | exact Bel.refl _ | assumption | refine bel_and ?_ _ | refine bel_drews ?_ _ | refine Bel.ext ?_ _ | refine Bel.alloc ?_ _ | refine Bel.drewN ?_ _))
    replace M := Nat.le_trans M hx.le
    replace S0 := S0.bel hx
    replace F0 := F0.bel hx
    replace P0 := P0.bel hx
    replace P1 := P1.bel hx
    replace P2 := P2.bel hx
    replace O1 := O1.bel hx
    replace B0 := B0.bel hx
    replace C0 := C0.bel hx
    replace C1 := C1.bel hx
    replace C2 := C2.bel hx
    replace D0 := D0.bel hx
    replace D1 := D1.bel hx
    replace D2 := D2.bel hx
    replace O2 := O2.bel hx
    replace E0 := E0.bel hx
    replace O3 := O3.bel hx
    replace G0 := G0.bel hx
    replace O4 := O4.bel hx
    replace H0 := H0.bel hx
    replace O5 := O5.bel hx
    replace I0 := I0.bel hx
    replace O6 := O6.bel hx
    replace J0 := J0.bel hx
    replace O7 := O7.bel hx
    replace K0 := K0.bel hx
    replace hb := hb.trans hx
    clear hx hW
    have hl70 := HL.out
    go_loopw [24] (fun i wr => ∃ (k : Nat) (m : List Pt), k ≤ l.length ∧ m.length = l.length ∧ i = .int .i64 k ∧ Own wr W1.heap.size 26 3 A1 l.length c1 (vp m) ∧ (∀ g, A1 = some ⟨g, 0, none⟩ → Apart g W12 wr) ∧ (A1 = none → wr = W12)) (fun i _ => l.length - (intOf i).toNat)
    case atStart => exact ⟨0, l, Nat.zero_le _, rfl, rfl, O1, fun g _ => Apart.refl g _, fun _ => rfl⟩
    case round =>
      obtain ⟨k, m, hk, hml, rfl, hown, hap, hno⟩ := hrel
      have HM := Lib.hid hml; have HA := Lib.hid hap; have HNo := Lib.hid hno
      clear hml hap hno
      by_cases hlt : k < l.length
      · rcases G1 with ⟨_, h0⟩ | ⟨g, rfl, hg1, hg2⟩
        · omega
        have ha := HA.out g rfl
        have hlt2 : k < m.length := by have := HM.out; omega
        obtain ⟨x, hx⟩ : ∃ x, m[k]? = some x := ⟨_, List.getElem?_eq_getElem hlt2⟩
        obtain ⟨r0, r1, r2⟩ := pt_at hown.sl hx
        rw [Nat.zero_add] at r0 r1 r2
        have fz := own_frozen hown (k * 3 + 1)
        have B1 := B0.apart ha (show W2.heap.size ≠ g by omega)
        have b0 := B1.eq
        have hgl := hown.ats.2
        have hi0 : (0 : Int) ≤ (k : Int) := by omega
        have hi1 : (k : Int) < (l.length : Int) := by omega
        have HX := Lib.hid hx; clear hx
        go_wp2
        go_roundw
        case rel =>
          refine ⟨k + 1, m.set k ⟨x.id, wrap64 (x.a + 1), x.b⟩, by omega, by rw [List.length_set]; exact HM.out, by go_num, ?_, ?_, fun h => by cases h⟩
          · have e1 : vp (m.set k ⟨x.id, wrap64 (x.a + 1), x.b⟩) = (vp m).set (k * 3 + 1) (.int .i64 (wrap64 (x.a + 1))) := vp_setA HX.out _
            rw [e1]
            exact (World.ownsRow.stored hown (k * 3 + 1) _).1
          · intro g' h'
            obtain rfl : g = g' := by injection h' with h'; injection h'
            exact ha.setCell _ _
        case measure => (first | (simp [intOf]; done) | (simp [intOf]; omega))
      · obtain rfl : k = l.length := by omega
        have hb12 := hb
        obtain ⟨W13, hW⟩ : ∃ W, wr = W := ⟨_, rfl⟩
        have hb13 : Bel w wr ∧ (∀ g, A1 = some ⟨g, 0, none⟩ → Apart g W12 wr) := by
          rcases G1 with ⟨h0, _⟩ | ⟨g, h0, hg1, hg2⟩
          · exact ⟨(HNo.out h0) ▸ hb, HA.out⟩
          · exact ⟨(HA.out g h0).bel hb (by omega), HA.out⟩
        clear hb12 hW
        have T : ∀ b o v, W2.heap.size ≤ b → Held W12 b o v → Held wr b o v := by
          intro b o v hbb hh
          rcases G1 with ⟨h0, _⟩ | ⟨g, h0, hg1, hg2⟩
          · rw [HNo.out h0]; exact hh
          · exact hh.apart (HA.out g h0) (by omega)
        have U : ∀ A n c xs, (∀ g, g < W2.heap.size → ∀ b o, A = some ⟨b, o, none⟩ → b ≠ g) → Sl W12 3 A n c xs → Sl wr 3 A n c xs := by
          intro A n c xs hne hh
          rcases G1 with ⟨h0, _⟩ | ⟨g, h0, hg1, hg2⟩
          · rw [HNo.out h0]; exact hh
          · exact hh.apart (HA.out g h0) (hne g hg2)
        have B1 : Held wr W2.heap.size 0 (.slice A1 l.length c1) := by
          rcases G1 with ⟨h0, _⟩ | ⟨g, h0, hg1, hg2⟩
          · rw [HNo.out h0]; exact B0
          · exact B0.apart (HA.out g h0) (by omega)
        have b0 := B1.eq; have bl := B1.lt
        replace E0 := T _ _ _ mE E0
        replace G0 := T _ _ _ mG G0
        replace H0 := T _ _ _ mH H0
        replace I0 := T _ _ _ mI I0
        replace J0 := T _ _ _ mJ J0
        replace K0 := T _ _ _ mK K0
        have S2 := U _ _ _ _ nO2 O2.sl
        have S3 := U _ _ _ _ nO3 O3.sl
        have S4 := U _ _ _ _ nO4 O4.sl
        have S5 := U _ _ _ _ nO5 O5.sl
        have S6 := U _ _ _ _ nO6 O6.sl
        have S7 := U _ _ _ _ nO7 O7.sl
        replace hb := hb13.1
        have l2 := put_le l p
        have l4 := take_le l id
        have l6 := change_le l p
        have HL2 := Lib.hid l2; have HL4 := Lib.hid l4; have HL6 := Lib.hid l6
        clear l2 l4 l6 T U hb13 O1 O2 O3 O4 O5 O6 O7 nO2 nO3 nO4 nO5 nO6 nO7 mC mD mE mG mH mI mJ mK HNo HA hown G1 M S0 F0 P0 P1 P2 C0 C1 C2 D0 D1 D2 B0 h01
        have hfi : ∀ W, (Instr.field 24 (.agg #[.slice none 0 0]) 0).run Try.prog W = .ok (.slice none 0 0) W := fun _ => by kernel_rfl
        have ye0 := E0.eq; have yl0 := E0.lt
        have ye1 := G0.eq; have yl1 := G0.lt
        have ye2 := H0.eq; have yl2 := H0.lt
        have ye3 := I0.eq; have yl3 := I0.lt
        have ye4 := J0.eq; have yl4 := J0.lt
        have ye5 := K0.eq; have yl5 := K0.lt
        have z1 : decide ((fieldPut l p).1 = (fieldPut l p).1) = true := decide_eq_true rfl
        have z2 : decide ((fieldTake l id).1 = (fieldTake l id).1) = true := decide_eq_true rfl
        have z3 : decide ((fieldChange l p).1 = (fieldChange l p).1) = true := decide_eq_true rfl
        go_wp2_with ((go_at_call 28; refine (fieldNew_any _).mono ?_; rintro e _ ⟨rfl, y1, rfl⟩))
        skip
        refine (same03_any A2 A3 c2 c3 (fieldPut l p).1 (fieldPut l p).1 _ (S2.bel (by (try simp only [ext_ext]); repeat (first | exact Bel.refl _ | assumption | refine bel_and ?_ _ | refine bel_drews ?_ _ | refine Bel.ext ?_ _ | refine Bel.alloc ?_ _ | refine Bel.drewN ?_ _))) (S3.bel (by (try simp only [ext_ext]); repeat (first | exact Bel.refl _ | assumption | refine bel_and ?_ _ | refine bel_drews ?_ _ | refine Bel.ext ?_ _ | refine Bel.alloc ?_ _ | refine Bel.drewN ?_ _))) (by have := HL2.out; omega) (by have := HL2.out; omega)).mono ?_
        rintro e W13 ⟨rfl, hq⟩
        have hq1 := hq
        have hx : Bel wr W13 := Bel.trans (show Bel wr _ from (by (try simp only [ext_ext]); repeat (first | exact Bel.refl _ | assumption | refine bel_and ?_ _ | refine bel_drews ?_ _ | refine Bel.ext ?_ _ | refine Bel.alloc ?_ _ | refine Bel.drewN ?_ _))) (bel_of hq1)
        clear hq hq1
        replace E0 := E0.bel hx
        replace G0 := G0.bel hx
        replace H0 := H0.bel hx
        replace I0 := I0.bel hx
        replace J0 := J0.bel hx
        replace K0 := K0.bel hx
        replace S2 := S2.bel hx
        replace S3 := S3.bel hx
        replace S4 := S4.bel hx
        replace S5 := S5.bel hx
        replace S6 := S6.bel hx
        replace S7 := S7.bel hx
        replace hb := hb.trans hx
        clear hx
        have xe0 := H0.eq
        have xl0 := H0.lt
        have xz0 := H0.fr
        have xe1 := I0.eq
        have xl1 := I0.lt
        have xz1 := I0.fr
        have xe2 := J0.eq
        have xl2 := J0.lt
        have xz2 := J0.fr
        have xe3 := K0.eq
        have xl3 := K0.lt
        have xz3 := K0.fr
        go_wp2_with (fail)
        refine (same03_any A4 A5 c4 c5 (fieldTake l id).1 (fieldTake l id).1 _ (S4.bel (by (try simp only [ext_ext]); repeat (first | exact Bel.refl _ | assumption | refine bel_and ?_ _ | refine bel_drews ?_ _ | refine Bel.ext ?_ _ | refine Bel.alloc ?_ _ | refine Bel.drewN ?_ _))) (S5.bel (by (try simp only [ext_ext]); repeat (first | exact Bel.refl _ | assumption | refine bel_and ?_ _ | refine bel_drews ?_ _ | refine Bel.ext ?_ _ | refine Bel.alloc ?_ _ | refine Bel.drewN ?_ _))) (by have := HL4.out; omega) (by have := HL4.out; omega)).mono ?_
        rintro e W14 ⟨rfl, hq⟩
        have hq1 := hq
        have hx : Bel W13 W14 := Bel.trans (show Bel W13 _ from (by (try simp only [ext_ext]); repeat (first | exact Bel.refl _ | assumption | refine bel_and ?_ _ | refine bel_drews ?_ _ | refine Bel.ext ?_ _ | refine Bel.alloc ?_ _ | refine Bel.drewN ?_ _))) (bel_of hq1)
        clear hq hq1
        replace E0 := E0.bel hx
        replace G0 := G0.bel hx
        replace H0 := H0.bel hx
        replace I0 := I0.bel hx
        replace J0 := J0.bel hx
        replace K0 := K0.bel hx
        replace S2 := S2.bel hx
        replace S3 := S3.bel hx
        replace S4 := S4.bel hx
        replace S5 := S5.bel hx
        replace S6 := S6.bel hx
        replace S7 := S7.bel hx
        replace hb := hb.trans hx
        clear hx xe0 xl0 xz0 xe1 xl1 xz1 xe2 xl2 xz2 xe3 xl3 xz3
        have xe0 := J0.eq
        have xl0 := J0.lt
        have xz0 := J0.fr
        have xe1 := K0.eq
        have xl1 := K0.lt
        have xz1 := K0.fr
        go_wp2_with (fail)
        refine (same03_any A6 A7 c6 c7 (fieldChange l p).1 (fieldChange l p).1 _ (S6.bel (by (try simp only [ext_ext]); repeat (first | exact Bel.refl _ | assumption | refine bel_and ?_ _ | refine bel_drews ?_ _ | refine Bel.ext ?_ _ | refine Bel.alloc ?_ _ | refine Bel.drewN ?_ _))) (S7.bel (by (try simp only [ext_ext]); repeat (first | exact Bel.refl _ | assumption | refine bel_and ?_ _ | refine bel_drews ?_ _ | refine Bel.ext ?_ _ | refine Bel.alloc ?_ _ | refine Bel.drewN ?_ _))) (by have := HL6.out; omega) (by have := HL6.out; omega)).mono ?_
        rintro e W15 ⟨rfl, hq⟩
        have hq1 := hq
        have hx : Bel W14 W15 := Bel.trans (show Bel W14 _ from (by (try simp only [ext_ext]); repeat (first | exact Bel.refl _ | assumption | refine bel_and ?_ _ | refine bel_drews ?_ _ | refine Bel.ext ?_ _ | refine Bel.alloc ?_ _ | refine Bel.drewN ?_ _))) (bel_of hq1)
        clear hq hq1
        replace E0 := E0.bel hx
        replace G0 := G0.bel hx
        replace H0 := H0.bel hx
        replace I0 := I0.bel hx
        replace J0 := J0.bel hx
        replace K0 := K0.bel hx
        replace S2 := S2.bel hx
        replace S3 := S3.bel hx
        replace S4 := S4.bel hx
        replace S5 := S5.bel hx
        replace S6 := S6.bel hx
        replace S7 := S7.bel hx
        replace hb := hb.trans hx
        clear hx xe0 xl0 xz0 xe1 xl1 xz1
        go_wp2
        (go_ret; exact ⟨ret_bool (by simp), ext_of (by (try simp only [ext_ext]); repeat (first | exact Bel.refl _ | assumption | refine bel_and ?_ _ | refine bel_drews ?_ _ | refine Bel.ext ?_ _ | refine Bel.alloc ?_ _ | refine Bel.drewN ?_ _))⟩)
set_option maxRecDepth 100000 in
theorem fieldSets_lifted (os : Os) (started : os.Started) (H : Type) (enc : TypeId × Value → H) :
    ReturnsInHanded {} Try.checked os 3 .any (Rows.fieldSetsSpec.pre6 enc Try.prog Try.f3 Rows.fieldSetsRow.domain false) (Rows.fieldSetsSpec.post enc Try.prog Try.f3 false true false false) := by
  refine returnsInHanded_of_change (C := Try.checked) ownKnob_ started (by kernel_rfl) Try.func3
    (ChangeSpec.witness6 (enc := enc) (C := Try.checked) false ⟨#[], #[.agg #[.slice none 0 0], .agg #[.int .i64 0, .int .i64 0, .int .i64 0], .int .i64 0], []⟩ 8 (by kernel_rfl) (by kernel_rfl) (by kernel_rfl) (by kernel_rfl)) ?_
  intro W base args ds gs before hval0 hW hcnd _
  have hval : ∀ (j : Nat) t v, Try.f3.params[j]? = some t → args[j]? = some v → Value.okWide Try.prog W .any base t v := hval0
  have hW' := hW
  obtain ⟨p, q, hA0, hV, rfl, hfz, hnd⟩ := hW
  have hA : DataW.TrodAll enc Try.prog W 0 (fun _ => true) true Try.f3.params.toList args.toList ds p := hA0
  rw [Try.params3] at hA hval
  obtain ⟨v0, vs0, d0, ds0, p0, q0, hargs, rfl, rfl, h0, r0⟩ := trodAll_cons hA
  obtain ⟨v1, vs1, d1, ds1, p1, q1, rfl, rfl, rfl, h1, r1⟩ := trodAll_cons r0
  obtain ⟨v2, vs2, d2, ds2, p2, q2, rfl, rfl, rfl, h2, r2⟩ := trodAll_cons r1
  obtain ⟨rfl, rfl, rfl⟩ := trodAll_nil r2
  obtain rfl : args = #[v0, v1, v2] := by cases args; simp_all
  obtain ⟨rfl, rfl⟩ := trodVars_none hV
  have k0_ := h0
  have lt0 : ∀ x ∈ p0, x.block < W.heap.size := by obtain ⟨m, hm⟩ := k0_; exact DataW.trod_lt m _ _ _ hm
  have k1_ := h1
  have lt1 : ∀ x ∈ p1, x.block < W.heap.size := by obtain ⟨m, hm⟩ := k1_; exact DataW.trod_lt m _ _ _ hm
  have k2_ := h2
  have lt2 : ∀ x ∈ p2, x.block < W.heap.size := by obtain ⟨m, hm⟩ := k2_; exact DataW.trod_lt m _ _ _ hm
  obtain ⟨cs0, rfl, hsz0⟩ := okWide_struct Try.underlying24 (hval 0 24 v0 rfl rfl)
  obtain ⟨l0⟩ := cs0
  obtain ⟨fuel0, hf0⟩ := h0
  obtain ⟨A0, c0, l0, rfl, hsl0, hnil0, hfit0⟩ := field_cells hf0 (by rw [cellsF_field] at hsz0; exact hsz0)
  obtain ⟨cs1, rfl, hsz1⟩ := okWide_struct Try.underlying26 (hval 1 26 v1 rfl rfl)
  obtain ⟨l1⟩ := cs1
  obtain ⟨fuel1, hf1⟩ := h1
  obtain ⟨p1, rfl, hfit1⟩ := point_cells hf1 (by rw [cellsF_point] at hsz1; exact hsz1)
  obtain ⟨i2, rfl, hfit2⟩ := okWide_int Try.underlying3 (hval 2 3 v2 rfl rfl)
  clear hA0 hval0
  refine (fsets_walk A0 c0 l0 p1 i2 _ hsl0 hnil0).mono fun e W' ⟨he, hx⟩ => ?_
  have bel : Below W.heap.size W W' := bel_of hx
  subst he
  exact ⟨_, rfl, _, _, _, [], _, [], hW', trodAll_mk1 (shut_bool Try.underlying4 _), (trodAll_cons_mk (Below.trod laidOut_ (by kernel_rfl) (of_decide_eq_true (by kernel_rfl)) k0_ bel lt0) (trodAll_cons_mk (Below.trod laidOut_ (by kernel_rfl) (of_decide_eq_true (by kernel_rfl)) k1_ bel lt1) (trodAll_cons_mk (Below.trod laidOut_ (by kernel_rfl) (of_decide_eq_true (by kernel_rfl)) k2_ bel lt2) trodAll_mk0))), rfl, bel.frame _, fun h => by cases h⟩
theorem fieldSets_over : Rows.fieldSetsRow.holds Try.pinned (OpenSpec.ofChange Rows.fieldSetsSpec) :=
  OpenClaim.holds_of_wide 3 Try.f3 rfl rfl rfl rfl rfl rfl rfl ⟨rfl, rfl, rfl, rfl, rfl⟩ rfl rfl rfl rfl rfl (by kernel_rfl) Try.func3 (by kernel_rfl)
    (of_decide_eq_true (by kernel_rfl)) (by unfold Func.isWrapper; rw [if_neg (of_decide_eq_false (by kernel_rfl))]; exact ⟨rfl, rfl⟩)
    (fun os started H enc _ => fieldSets_lifted os started H enc)
/-- The statement. -/
theorem fieldSets_holds : Rows.FieldSetsSaid := fieldSets_over
end Go.Proofs.Ytkcpnclgcmnlcaa
