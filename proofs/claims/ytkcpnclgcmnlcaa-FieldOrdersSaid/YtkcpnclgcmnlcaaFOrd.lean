/- For every field, ratio and ID: Leader, Order and Rank return what the reference returns: the statement FieldOrders. (Printed by genforders.py.) -/
import Derived.Test.YtkcpnclgcmnlcaaRef8
import Derived.Test.YtkcpnclgcmnlcaaLaw
import Derived.Test.YtkcpnclgcmnlcaaArgsF
set_option linter.unusedSimpArgs false
set_option linter.unusedVariables false

namespace Go.Proofs.Ytkcpnclgcmnlcaa
open Go.ChangeShapes Go.WideShapes Go.ChangeAt Go.RowKit Go.Pel
theorem order_le (l : List Pt) (n d : Int) : (fieldOrder l n d).1.length ≤ l.length := by
  unfold fieldOrder fieldSorted
  split
  · simp
  · split
    · simp
    · split
      · simp
      · simp [sortP_length]
set_option maxRecDepth 10000 in
set_option maxHeartbeats 4000000 in
theorem ford_walk (A : Option Addr) (c : Nat) (l : List Pt) (n d id : Int) (w : World) (hs : Sl w 3 A l.length c (vp l)) (hn : A = none → c = 0) (hN : -9223372036854775808 ≤ n ∧ n ≤ 9223372036854775807) (hD : -9223372036854775808 ≤ d ∧ d ≤ 9223372036854775807) :
    Calls Try.prog 9 #[.agg #[.slice A l.length c], .agg #[.int .i64 n, .int .i64 d], .int .i64 id] w fun e w' => e = .returned (.bool true) ∧ ∃ x, w' = ext w x := by
  cases hg : great l.length with
  | true =>
    have q := Lib.hid (fun W => great_any A l.length c W)
    rw [hg] at q
    clear hg
    go_enter Try.func9, Try.ntmps9
    go_wp2_with ((go_at_call 15; refine (q.out _).mono ?_; rintro e _ ⟨rfl, nx, rfl⟩))
    (go_ret; exact ⟨ret_bool (by rfl), ext_of (by (try simp only [ext_ext]); repeat (first | exact Bel.refl _ | assumption | refine bel_and ?_ _ | refine bel_drews ?_ _ | refine Bel.ext ?_ _ | refine Bel.alloc ?_ _ | refine Bel.drewN ?_ _))⟩)
  | false =>
    have q := Lib.hid (fun W => great_any A l.length c W)
    rw [hg] at q
    have hl : l.length ≤ 70 := by unfold great at hg; simp at hg; omega
    have HL := Lib.hid hl
    have HO := Lib.hid (order_le l n d)
    have KN := Lib.hid hN
    have KD := Lib.hid hD
    clear hg hl hN hD
    have S0 := hs
    have HN := Lib.hid hn
    clear hn
    go_enter Try.func9, Try.ntmps9
    go_wp2_with fail
    refine (q.out _).mono ?_
    rintro e W1 ⟨rfl, hq⟩
    have hxb : Bel ((w.alloc (.cells #[.slice A l.length c] 24)).alloc (.cells #[.int .i64 n, .int .i64 d] 49)) W1 := by obtain ⟨y, hy⟩ := hq; rw [hy]; exact (by (try simp only [ext_ext]); repeat (first | exact Bel.refl _ | assumption | refine bel_and ?_ _ | refine bel_drews ?_ _ | refine Bel.ext ?_ _ | refine Bel.alloc ?_ _ | refine Bel.drewN ?_ _))
    have hb : Bel w W1 := Bel.trans (by (try simp only [ext_ext]); repeat (first | exact Bel.refl _ | assumption | refine bel_and ?_ _ | refine bel_drews ?_ _ | refine Bel.ext ?_ _ | refine Bel.alloc ?_ _ | refine Bel.drewN ?_ _)) hxb
    have F0 : Held W1 w.heap.size 0 (.slice A l.length c) := (Held.new (W' := (w.alloc (.cells #[.slice A l.length c] 24)).alloc (.cells #[.int .i64 n, .int .i64 d] 49)) (by (try simp only [ext_ext]); repeat (first | exact Bel.refl _ | assumption | refine bel_and ?_ _ | refine bel_drews ?_ _ | refine Bel.ext ?_ _ | refine Bel.alloc ?_ _ | refine Bel.drewN ?_ _)) rfl).bel hxb
    have P0 : Held W1 (w.heap.size + 1) 0 (.int .i64 n) := by have := Held.new (j := 0) hxb (v := .int .i64 n) rfl; simpa using this
    have P1 : Held W1 (w.heap.size + 1) 1 (.int .i64 d) := by have := Held.new (j := 1) hxb (v := .int .i64 d) rfl; simpa using this
    replace S0 := S0.bel hb
    have h01 := hb.le
    clear hq hxb q hs
    have xe0 := F0.eq
    have xl0 := F0.lt
    have xz0 := F0.fr
    go_wp2_with (fail)
    refine (twin_any A c l _ (S0.bel (by (try simp only [ext_ext]); repeat (first | exact Bel.refl _ | assumption | refine bel_and ?_ _ | refine bel_drews ?_ _ | refine Bel.ext ?_ _ | refine Bel.alloc ?_ _ | refine Bel.drewN ?_ _))) HN.out (by have := HL.out; omega)).mono ?_
    rintro e W2 ⟨A1, c1, rfl, hq⟩
    have hq1 := own_split hq
    have hx : Bel W1 W2 := Bel.trans (show Bel W1 _ from (by (try simp only [ext_ext]); repeat (first | exact Bel.refl _ | assumption | refine bel_and ?_ _ | refine bel_drews ?_ _ | refine Bel.ext ?_ _ | refine Bel.alloc ?_ _ | refine Bel.drewN ?_ _))) (bel_of hq1)
    have O1 := own_here hq
    clear hq hq1
    replace S0 := S0.bel hx
    replace F0 := F0.bel hx
    replace P0 := P0.bel hx
    replace P1 := P1.bel hx
    replace hb := hb.trans hx
    clear hx xe0 xl0 xz0
    have xe0 := P0.eq
    have xl0 := P0.lt
    have xz0 := P0.fr
    have xe1 := P1.eq
    have xl1 := P1.lt
    have xz1 := P1.fr
    go_wp2_with (fail)
    refine (leader_any A1 c1 l n d _ KN.out KD.out (O1.sl.bel (by (try simp only [ext_ext]); repeat (first | exact Bel.refl _ | assumption | refine bel_and ?_ _ | refine bel_drews ?_ _ | refine Bel.ext ?_ _ | refine Bel.alloc ?_ _ | refine Bel.drewN ?_ _))) O1.nilc).mono ?_
    rintro e W3 ⟨rfl, hq⟩
    have hq1 := hq
    have hx : Bel W2 W3 := Bel.trans (show Bel W2 _ from (by (try simp only [ext_ext]); repeat (first | exact Bel.refl _ | assumption | refine bel_and ?_ _ | refine bel_drews ?_ _ | refine Bel.ext ?_ _ | refine Bel.alloc ?_ _ | refine Bel.drewN ?_ _))) (bel_of hq1)
    have hxb : Bel (W2.alloc (.cells #[.slice A1 l.length c1] 24)) W3 := by obtain ⟨y, hy⟩ := hq1; rw [hy]; exact (by (try simp only [ext_ext]); repeat (first | exact Bel.refl _ | assumption | refine bel_and ?_ _ | refine bel_drews ?_ _ | refine Bel.ext ?_ _ | refine Bel.alloc ?_ _ | refine Bel.drewN ?_ _))
    have B0 : Held W3 W2.heap.size 0 (.slice A1 l.length c1) := Held.new hxb (by rfl)
    clear hxb
    clear hq hq1
    replace S0 := S0.bel hx
    replace F0 := F0.bel hx
    replace P0 := P0.bel hx
    replace P1 := P1.bel hx
    replace O1 := O1.bel hx
    replace hb := hb.trans hx
    clear hx xe0 xl0 xz0 xe1 xl1 xz1
    have xe0 := F0.eq
    have xl0 := F0.lt
    have xz0 := F0.fr
    have xe1 := P0.eq
    have xl1 := P0.lt
    have xz1 := P0.fr
    have xe2 := P1.eq
    have xl2 := P1.lt
    have xz2 := P1.fr
    go_wp2_with (fail)
    refine (refLeader_any A c l n d _ KN.out KD.out (S0.bel (by (try simp only [ext_ext]); repeat (first | exact Bel.refl _ | assumption | refine bel_and ?_ _ | refine bel_drews ?_ _ | refine Bel.ext ?_ _ | refine Bel.alloc ?_ _ | refine Bel.drewN ?_ _))) (by have := HL.out; omega)).mono ?_
    rintro e W4 ⟨rfl, hq⟩
    have hq1 := hq
    have hx : Bel W3 W4 := Bel.trans (show Bel W3 _ from (by (try simp only [ext_ext]); repeat (first | exact Bel.refl _ | assumption | refine bel_and ?_ _ | refine bel_drews ?_ _ | refine Bel.ext ?_ _ | refine Bel.alloc ?_ _ | refine Bel.drewN ?_ _))) (bel_of hq1)
    clear hq hq1
    replace S0 := S0.bel hx
    replace F0 := F0.bel hx
    replace P0 := P0.bel hx
    replace P1 := P1.bel hx
    replace O1 := O1.bel hx
    replace B0 := B0.bel hx
    replace hb := hb.trans hx
    clear hx xe0 xl0 xz0 xe1 xl1 xz1 xe2 xl2 xz2
    have xe0 := B0.eq
    have xl0 := B0.lt
    have xz0 := B0.fr
    have xe1 := P0.eq
    have xl1 := P0.lt
    have xz1 := P0.fr
    have xe2 := P1.eq
    have xl2 := P1.lt
    have xz2 := P1.fr
    go_wp2_with (fail)
    refine (order_any A1 c1 l n d _ KN.out KD.out (O1.sl.bel (by (try simp only [ext_ext]); repeat (first | exact Bel.refl _ | assumption | refine bel_and ?_ _ | refine bel_drews ?_ _ | refine Bel.ext ?_ _ | refine Bel.alloc ?_ _ | refine Bel.drewN ?_ _))) O1.nilc (by have := HL.out; omega)).mono ?_
    rintro e W5 ⟨A2, c2, rfl, hq⟩
    have hq1 := own_split hq
    have hx : Bel W4 W5 := Bel.trans (show Bel W4 _ from (by (try simp only [ext_ext]); repeat (first | exact Bel.refl _ | assumption | refine bel_and ?_ _ | refine bel_drews ?_ _ | refine Bel.ext ?_ _ | refine Bel.alloc ?_ _ | refine Bel.drewN ?_ _))) (bel_of hq1)
    have O2 := own_here hq
    clear hq hq1
    replace S0 := S0.bel hx
    replace F0 := F0.bel hx
    replace P0 := P0.bel hx
    replace P1 := P1.bel hx
    replace O1 := O1.bel hx
    replace B0 := B0.bel hx
    replace hb := hb.trans hx
    clear hx xe0 xl0 xz0 xe1 xl1 xz1 xe2 xl2 xz2
    have xe0 := F0.eq
    have xl0 := F0.lt
    have xz0 := F0.fr
    have xe1 := P0.eq
    have xl1 := P0.lt
    have xz1 := P0.fr
    have xe2 := P1.eq
    have xl2 := P1.lt
    have xz2 := P1.fr
    go_wp2_with (fail)
    refine (refOrder_any A c l n d _ KN.out KD.out (S0.bel (by (try simp only [ext_ext]); repeat (first | exact Bel.refl _ | assumption | refine bel_and ?_ _ | refine bel_drews ?_ _ | refine Bel.ext ?_ _ | refine Bel.alloc ?_ _ | refine Bel.drewN ?_ _))) (by have := HL.out; omega)).mono ?_
    rintro e W6 ⟨A3, c3, rfl, hq⟩
    have hq1 := own_split hq
    have hx : Bel W5 W6 := Bel.trans (show Bel W5 _ from (by (try simp only [ext_ext]); repeat (first | exact Bel.refl _ | assumption | refine bel_and ?_ _ | refine bel_drews ?_ _ | refine Bel.ext ?_ _ | refine Bel.alloc ?_ _ | refine Bel.drewN ?_ _))) (bel_of hq1)
    have O3 := own_here hq
    clear hq hq1
    replace S0 := S0.bel hx
    replace F0 := F0.bel hx
    replace P0 := P0.bel hx
    replace P1 := P1.bel hx
    replace O1 := O1.bel hx
    replace B0 := B0.bel hx
    replace O2 := O2.bel hx
    replace hb := hb.trans hx
    clear hx xe0 xl0 xz0 xe1 xl1 xz1 xe2 xl2 xz2
    have xe0 := B0.eq
    have xl0 := B0.lt
    have xz0 := B0.fr
    have xe1 := P0.eq
    have xl1 := P0.lt
    have xz1 := P0.fr
    have xe2 := P1.eq
    have xl2 := P1.lt
    have xz2 := P1.fr
    go_wp2_with (fail)
    refine (rank_any A1 c1 l id n d _ KN.out KD.out (O1.sl.bel (by (try simp only [ext_ext]); repeat (first | exact Bel.refl _ | assumption | refine bel_and ?_ _ | refine bel_drews ?_ _ | refine Bel.ext ?_ _ | refine Bel.alloc ?_ _ | refine Bel.drewN ?_ _))) O1.nilc (by have := HL.out; omega)).mono ?_
    rintro e W7 ⟨rfl, hq⟩
    have hq1 := hq
    have hx : Bel W6 W7 := Bel.trans (show Bel W6 _ from (by (try simp only [ext_ext]); repeat (first | exact Bel.refl _ | assumption | refine bel_and ?_ _ | refine bel_drews ?_ _ | refine Bel.ext ?_ _ | refine Bel.alloc ?_ _ | refine Bel.drewN ?_ _))) (bel_of hq1)
    clear hq hq1
    replace S0 := S0.bel hx
    replace F0 := F0.bel hx
    replace P0 := P0.bel hx
    replace P1 := P1.bel hx
    replace O1 := O1.bel hx
    replace B0 := B0.bel hx
    replace O2 := O2.bel hx
    replace O3 := O3.bel hx
    replace hb := hb.trans hx
    clear hx xe0 xl0 xz0 xe1 xl1 xz1 xe2 xl2 xz2
    have xe0 := F0.eq
    have xl0 := F0.lt
    have xz0 := F0.fr
    have xe1 := P0.eq
    have xl1 := P0.lt
    have xz1 := P0.fr
    have xe2 := P1.eq
    have xl2 := P1.lt
    have xz2 := P1.fr
    go_wp2_with (fail)
    refine (refRank_any A c l id n d _ KN.out KD.out (S0.bel (by (try simp only [ext_ext]); repeat (first | exact Bel.refl _ | assumption | refine bel_and ?_ _ | refine bel_drews ?_ _ | refine Bel.ext ?_ _ | refine Bel.alloc ?_ _ | refine Bel.drewN ?_ _))) (by have := HL.out; omega)).mono ?_
    rintro e W8 ⟨rfl, hq⟩
    have hq1 := hq
    have hx : Bel W7 W8 := Bel.trans (show Bel W7 _ from (by (try simp only [ext_ext]); repeat (first | exact Bel.refl _ | assumption | refine bel_and ?_ _ | refine bel_drews ?_ _ | refine Bel.ext ?_ _ | refine Bel.alloc ?_ _ | refine Bel.drewN ?_ _))) (bel_of hq1)
    clear hq hq1
    replace S0 := S0.bel hx
    replace F0 := F0.bel hx
    replace P0 := P0.bel hx
    replace P1 := P1.bel hx
    replace O1 := O1.bel hx
    replace B0 := B0.bel hx
    replace O2 := O2.bel hx
    replace O3 := O3.bel hx
    replace hb := hb.trans hx
    clear hx xe0 xl0 xz0 xe1 xl1 xz1 xe2 xl2 xz2
    have z0 : (((fieldLeader l n d).1) == ((fieldLeader l n d).1)) = true := beq_self_eq_true _
    have z1 : (((fieldLeader l n d).2) == ((fieldLeader l n d).2)) = true := beq_self_eq_true _
    have z2 : (((fieldOrder l n d).2) == ((fieldOrder l n d).2)) = true := beq_self_eq_true _
    have z3 : (((fieldRank l id n d).1) == ((fieldRank l id n d).1)) = true := beq_self_eq_true _
    have z4 : (((fieldRank l id n d).2) == ((fieldRank l id n d).2)) = true := beq_self_eq_true _
    have z5 : decide (l = l) = true := decide_eq_true rfl
    have z6 : decide ((fieldOrder l n d).1 = (fieldOrder l n d).1) = true := decide_eq_true rfl
    go_wp2_with (fail)
    refine (sameIDs_any A2 A3 c2 c3 (fieldOrder l n d).1 (fieldOrder l n d).1 _ (O2.sl.bel (by (try simp only [ext_ext]); repeat (first | exact Bel.refl _ | assumption | refine bel_and ?_ _ | refine bel_drews ?_ _ | refine Bel.ext ?_ _ | refine Bel.alloc ?_ _ | refine Bel.drewN ?_ _))) (O3.sl.bel (by (try simp only [ext_ext]); repeat (first | exact Bel.refl _ | assumption | refine bel_and ?_ _ | refine bel_drews ?_ _ | refine Bel.ext ?_ _ | refine Bel.alloc ?_ _ | refine Bel.drewN ?_ _))) (by have := HL.out; have := HO.out; omega) (by have := HL.out; have := HO.out; omega)).mono ?_
    rintro e W9 ⟨rfl, hq⟩
    have hq1 := hq
    have hx : Bel W8 W9 := Bel.trans (show Bel W8 _ from (by (try simp only [ext_ext]); repeat (first | exact Bel.refl _ | assumption | refine bel_and ?_ _ | refine bel_drews ?_ _ | refine Bel.ext ?_ _ | refine Bel.alloc ?_ _ | refine Bel.drewN ?_ _))) (bel_of hq1)
    clear hq hq1
    replace S0 := S0.bel hx
    replace F0 := F0.bel hx
    replace P0 := P0.bel hx
    replace P1 := P1.bel hx
    replace O1 := O1.bel hx
    replace B0 := B0.bel hx
    replace O2 := O2.bel hx
    replace O3 := O3.bel hx
    replace hb := hb.trans hx
    clear hx
    have xe0 := F0.eq
    have xl0 := F0.lt
    have xz0 := F0.fr
    have xe1 := B0.eq
    have xl1 := B0.lt
    have xz1 := B0.fr
    go_wp2_with (fail)
    refine (same03_any A1 A c1 c l l _ (O1.sl.bel (by (try simp only [ext_ext]); repeat (first | exact Bel.refl _ | assumption | refine bel_and ?_ _ | refine bel_drews ?_ _ | refine Bel.ext ?_ _ | refine Bel.alloc ?_ _ | refine Bel.drewN ?_ _))) (S0.bel (by (try simp only [ext_ext]); repeat (first | exact Bel.refl _ | assumption | refine bel_and ?_ _ | refine bel_drews ?_ _ | refine Bel.ext ?_ _ | refine Bel.alloc ?_ _ | refine Bel.drewN ?_ _))) (by have := HL.out; omega) (by have := HL.out; omega)).mono ?_
    rintro e W10 ⟨rfl, hq⟩
    have hq1 := hq
    have hx : Bel W9 W10 := Bel.trans (show Bel W9 _ from (by (try simp only [ext_ext]); repeat (first | exact Bel.refl _ | assumption | refine bel_and ?_ _ | refine bel_drews ?_ _ | refine Bel.ext ?_ _ | refine Bel.alloc ?_ _ | refine Bel.drewN ?_ _))) (bel_of hq1)
    clear hq hq1
    replace S0 := S0.bel hx
    replace F0 := F0.bel hx
    replace P0 := P0.bel hx
    replace P1 := P1.bel hx
    replace O1 := O1.bel hx
    replace B0 := B0.bel hx
    replace O2 := O2.bel hx
    replace O3 := O3.bel hx
    replace hb := hb.trans hx
    clear hx xe0 xl0 xz0 xe1 xl1 xz1
    go_wp2
    (go_ret; exact ⟨ret_bool (by simp), ext_of (by (try simp only [ext_ext]); repeat (first | exact Bel.refl _ | assumption | refine bel_and ?_ _ | refine bel_drews ?_ _ | refine Bel.ext ?_ _ | refine Bel.alloc ?_ _ | refine Bel.drewN ?_ _))⟩)
set_option maxRecDepth 100000 in
theorem fieldOrders_lifted (os : Os) (started : os.Started) (H : Type) (enc : TypeId × Value → H) :
    ReturnsInHanded {} Try.checked os 9 .any (Rows.fieldOrdersSpec.pre6 enc Try.prog Try.f9 Rows.fieldOrdersRow.domain false) (Rows.fieldOrdersSpec.post enc Try.prog Try.f9 false true false false) := by
  refine returnsInHanded_of_change (C := Try.checked) ownKnob_ started (by kernel_rfl) Try.func9
    (ChangeSpec.witness6 (enc := enc) (C := Try.checked) false ⟨#[], #[.agg #[.slice none 0 0], .agg #[.int .i64 0, .int .i64 0], .int .i64 0], []⟩ 8 (by kernel_rfl) (by kernel_rfl) (by kernel_rfl) (by kernel_rfl)) ?_
  intro W base args ds gs before hval0 hW hcnd _
  have hval : ∀ (j : Nat) t v, Try.f9.params[j]? = some t → args[j]? = some v → Value.okWide Try.prog W .any base t v := hval0
  have hW' := hW
  obtain ⟨p, q, hA0, hV, rfl, hfz, hnd⟩ := hW
  have hA : DataW.TrodAll enc Try.prog W 0 (fun _ => true) true Try.f9.params.toList args.toList ds p := hA0
  rw [Try.params9] at hA hval
  obtain ⟨v0, vs0, d0, ds0, p0, q0, hargs, rfl, rfl, h0, r0⟩ := trodAll_cons hA
  obtain ⟨v1, vs1, d1, ds1, p1, q1, rfl, rfl, rfl, h1, r1⟩ := trodAll_cons r0
  obtain ⟨v2, vs2, d2, ds2, p2, q2, rfl, rfl, rfl, h2, r2⟩ := trodAll_cons r1
  obtain ⟨rfl, rfl, rfl⟩ := trodAll_nil r2
  obtain rfl : args = #[v0, v1, v2] := by cases args; simp_all
  obtain ⟨rfl, rfl⟩ := trodVars_none hV
  have k0_ := h0
  have lt0 : ∀ x ∈ p0, x.block < W.heap.size := by obtain ⟨m, hm⟩ := k0_; exact DataW.trod_lt m _ _ _ hm
  have k1_ := h1
  have lt1 : ∀ x ∈ p1, x.block < W.heap.size := by obtain ⟨m, hm⟩ := k1_; exact DataW.trod_lt m _ _ _ hm
  have k2_ := h2
  have lt2 : ∀ x ∈ p2, x.block < W.heap.size := by obtain ⟨m, hm⟩ := k2_; exact DataW.trod_lt m _ _ _ hm
  obtain ⟨cs0, rfl, hsz0⟩ := okWide_struct Try.underlying24 (hval 0 24 v0 rfl rfl)
  obtain ⟨l0⟩ := cs0
  obtain ⟨fuel0, hf0⟩ := h0
  obtain ⟨A0, c0, l0, rfl, hsl0, hnil0, hfit0⟩ := field_cells hf0 (by rw [cellsF_field] at hsz0; exact hsz0)
  obtain ⟨cs1, rfl, hsz1⟩ := okWide_struct Try.underlying49 (hval 1 49 v1 rfl rfl)
  obtain ⟨l1⟩ := cs1
  obtain ⟨fuel1, hf1⟩ := h1
  obtain ⟨n1, d1, rfl, hfitn1, hfitd1⟩ := ratio_cells hf1 (by rw [cellsF_ratio] at hsz1; exact hsz1)
  obtain ⟨i2, rfl, hfit2⟩ := okWide_int Try.underlying3 (hval 2 3 v2 rfl rfl)
  clear hA0 hval0
  refine (ford_walk A0 c0 l0 n1 d1 i2 _ hsl0 hnil0 hfitn1 hfitd1).mono fun e W' ⟨he, hx⟩ => ?_
  have bel : Below W.heap.size W W' := (bel_of hx).toBelow
  subst he
  exact ⟨_, rfl, _, _, _, [], _, [], hW', trodAll_mk1 (shut_bool Try.underlying4 _), (trodAll_cons_mk (Below.trod laidOut_ (by kernel_rfl) (of_decide_eq_true (by kernel_rfl)) k0_ bel lt0) (trodAll_cons_mk (Below.trod laidOut_ (by kernel_rfl) (of_decide_eq_true (by kernel_rfl)) k1_ bel lt1) (trodAll_cons_mk (Below.trod laidOut_ (by kernel_rfl) (of_decide_eq_true (by kernel_rfl)) k2_ bel lt2) trodAll_mk0))), rfl, bel.frame _, fun h => by cases h⟩
theorem fieldOrders_over : Rows.fieldOrdersRow.holds Try.pinned (OpenSpec.ofChange Rows.fieldOrdersSpec) :=
  OpenClaim.holds_of_wide 9 Try.f9 rfl rfl rfl rfl rfl rfl rfl ⟨rfl, rfl, rfl, rfl, rfl⟩ rfl rfl rfl rfl rfl (by kernel_rfl) Try.func9 (by kernel_rfl)
    (of_decide_eq_true (by kernel_rfl)) (by unfold Func.isWrapper; rw [if_neg (of_decide_eq_false (by kernel_rfl))]; exact ⟨rfl, rfl⟩)
    (fun os started H enc _ => fieldOrders_lifted os started H enc)
/-- The statement. -/
theorem fieldOrders_holds : Rows.FieldOrdersSaid := fieldOrders_over
end Go.Proofs.Ytkcpnclgcmnlcaa
