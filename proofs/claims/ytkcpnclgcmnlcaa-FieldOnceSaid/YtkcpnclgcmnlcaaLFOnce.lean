/- For every field and time: the order has each ID once, each one ahead of the next one; a point's rank is its place in the order, the leader the first one: the statement FieldOnce. (Printed by genfonce.py.) -/
import Derived.Test.YtkcpnclgcmnlcaaGd
set_option linter.unusedSimpArgs false
set_option linter.unusedVariables false
namespace Go.Proofs.Ytkcpnclgcmnlcaa
open Go.ChangeShapes Go.WideShapes Go.ChangeAt Go.RowKit Go.Pel
set_option maxRecDepth 10000 in
set_option maxHeartbeats 4000000 in
theorem fonce_walk (A : Option Addr) (c : Nat) (l : List Pt) (n d : Int) (w : World) (hs : Sl w 3 A l.length c (vp l)) (hn : A = none → c = 0) (hN : -9223372036854775808 ≤ n ∧ n ≤ 9223372036854775807) (hD : -9223372036854775808 ≤ d ∧ d ≤ 9223372036854775807) :
    Calls Try.prog 10 #[.agg #[.slice A l.length c], .agg #[.int .i64 n, .int .i64 d]] w fun e w' => e = .returned (.bool true) ∧ ∃ x, w' = ext w x := by
  have S0 := hs
  have HN := Lib.hid hn
  have KN := Lib.hid hN
  have KD := Lib.hid hD
  cases hf : (!great l.length && timed l n d == 0) with
  | false =>
    have HF := Lib.hid (fun (W : World) (hw : Sl W 3 A l.length c (vp l)) => fit_lit A c l n d false hf W hN hD hw)
    clear hs hn hN hD hf
    go_enter Try.func10, Try.ntmps10
    go_wp2_with (fail)
    refine ((HF.out _ (S0.bel (by (try simp only [ext_ext]); repeat (first | exact Bel.refl _ | assumption | refine bel_and ?_ _ | refine bel_drews ?_ _ | refine Bel.ext ?_ _ | refine Bel.alloc ?_ _ | refine Bel.drewN ?_ _))))).mono ?_
    rintro e W1 ⟨rfl, hq⟩
    have hq1 := hq
    have hx : Bel w W1 := Bel.trans (show Bel w _ from (by (try simp only [ext_ext]); repeat (first | exact Bel.refl _ | assumption | refine bel_and ?_ _ | refine bel_drews ?_ _ | refine Bel.ext ?_ _ | refine Bel.alloc ?_ _ | refine Bel.drewN ?_ _))) (bel_of hq1)
    have hxb : Bel ((w.alloc (.cells #[.slice A l.length c] 24)).alloc (.cells #[.int .i64 n, .int .i64 d] 49)) W1 := by obtain ⟨y, hy⟩ := hq1; rw [hy]; exact (by (try simp only [ext_ext]); repeat (first | exact Bel.refl _ | assumption | refine bel_and ?_ _ | refine bel_drews ?_ _ | refine Bel.ext ?_ _ | refine Bel.alloc ?_ _ | refine Bel.drewN ?_ _))
    clear hxb
    clear hq hq1
    have hb := hx
    clear hx S0
    go_wp2_with (fail)
    refine (alive03_any _).mono ?_
    rintro e W2 ⟨rfl, hq⟩
    have hq1 := hq
    have hx : Bel W1 W2 := Bel.trans (show Bel W1 _ from (by (try simp only [ext_ext]); repeat (first | exact Bel.refl _ | assumption | refine bel_and ?_ _ | refine bel_drews ?_ _ | refine Bel.ext ?_ _ | refine Bel.alloc ?_ _ | refine Bel.drewN ?_ _))) (bel_of hq1)
    clear hq hq1
    replace hb := hb.trans hx
    clear hx
    go_wp2
    (go_ret; exact ⟨ret_bool (by rfl), ext_of (by (try simp only [ext_ext]); repeat (first | exact Bel.refl _ | assumption | refine bel_and ?_ _ | refine bel_drews ?_ _ | refine Bel.ext ?_ _ | refine Bel.alloc ?_ _ | refine Bel.drewN ?_ _))⟩)
  | true =>
    have HF := Lib.hid (fun (W : World) (hw : Sl W 3 A l.length c (vp l)) => fit_lit A c l n d true hf W hN hD hw)
    obtain ⟨hg, ht⟩ : great l.length = false ∧ timed l n d = 0 := by simpa using hf
    have hl : l.length ≤ 70 := by unfold great at hg; simp at hg; omega
    have HL := Lib.hid hl
    have HT := Lib.hid ht
    obtain ⟨s, hs1⟩ : ∃ s, sortP n d l = s := ⟨_, rfl⟩
    obtain ⟨L, hL⟩ : ∃ L, s.map Pt.id = L := ⟨_, rfl⟩
    have HS := Lib.hid hs1
    have HO := Lib.hid (show fieldOrder l n d = (L, 0) by rw [order_ok ht, hs1, hL])
    have HLs : Hid (∀ (k : Nat) (x : Pt), s[k]? = some x → L[k]? = some x.id) := Lib.hid (fun k x hx => by rw [← hL]; simp [hx])
    have hll : L.length = l.length := by rw [← hL, ← hs1, List.length_map, sortP_length]
    have hsl : s.length = L.length := by rw [← hL, List.length_map]
    have HLL := Lib.hid hll
    have HSL := Lib.hid hsl
    have z0 : ((L.length : Int) != (l.length : Int)) = false := by rw [hll]; simp
    have hLb : (L.length : Int) ≤ 70 := by omega
    clear hs hn hN hD hf hg ht hl hs1 hL hll hsl
    go_enter Try.func10, Try.ntmps10
    go_wp2_with (fail)
    refine ((HF.out _ (S0.bel (by (try simp only [ext_ext]); repeat (first | exact Bel.refl _ | assumption | refine bel_and ?_ _ | refine bel_drews ?_ _ | refine Bel.ext ?_ _ | refine Bel.alloc ?_ _ | refine Bel.drewN ?_ _))))).mono ?_
    rintro e W1 ⟨rfl, hq⟩
    have hq1 := hq
    have hx : Bel w W1 := Bel.trans (show Bel w _ from (by (try simp only [ext_ext]); repeat (first | exact Bel.refl _ | assumption | refine bel_and ?_ _ | refine bel_drews ?_ _ | refine Bel.ext ?_ _ | refine Bel.alloc ?_ _ | refine Bel.drewN ?_ _))) (bel_of hq1)
    have hxb : Bel ((w.alloc (.cells #[.slice A l.length c] 24)).alloc (.cells #[.int .i64 n, .int .i64 d] 49)) W1 := by obtain ⟨y, hy⟩ := hq1; rw [hy]; exact (by (try simp only [ext_ext]); repeat (first | exact Bel.refl _ | assumption | refine bel_and ?_ _ | refine bel_drews ?_ _ | refine Bel.ext ?_ _ | refine Bel.alloc ?_ _ | refine Bel.drewN ?_ _))
    have B1 : Box W1 (w.heap.size) #[.slice A l.length c] := Box.new (W := w) (e := 24) (Bel.trans (by (try simp only [ext_ext]); repeat (first | exact Bel.refl _ | assumption | refine bel_and ?_ _ | refine bel_drews ?_ _ | refine Bel.ext ?_ _ | refine Bel.alloc ?_ _ | refine Bel.drewN ?_ _)) hxb) (by rfl)
    have B2 : Box W1 (w.heap.size + 1) #[.int .i64 n, .int .i64 d] := Box.new (W := (w.alloc (.cells #[.slice A l.length c] 24))) (e := 49) (Bel.trans (by (try simp only [ext_ext]); repeat (first | exact Bel.refl _ | assumption | refine bel_and ?_ _ | refine bel_drews ?_ _ | refine Bel.ext ?_ _ | refine Bel.alloc ?_ _ | refine Bel.drewN ?_ _)) hxb) (by simp)
    clear hxb
    clear hq hq1
    replace S0 := S0.bel hx
    have hb := hx
    clear hx
    have xlB1 := B1.lt
    have xeB1_0 := B1.eq 0 (.slice A l.length c) rfl
    have xlB2 := B2.lt
    have xeB2_0 := B2.eq 0 (.int .i64 n) rfl
    have xeB2_1 := B2.eq 1 (.int .i64 d) rfl
    go_wp2_with (fail)
    refine (order_lit A c l n d L 0 HO.out _ KN.out KD.out (S0.bel (by (try simp only [ext_ext]); repeat (first | exact Bel.refl _ | assumption | refine bel_and ?_ _ | refine bel_drews ?_ _ | refine Bel.ext ?_ _ | refine Bel.alloc ?_ _ | refine Bel.drewN ?_ _))) HN.out (by have := HL.out; omega)).mono ?_
    rintro e W2 ⟨A3, c3, rfl, hq⟩
    have hq1 := own_split hq
    have hx : Bel W1 W2 := Bel.trans (show Bel W1 _ from (by (try simp only [ext_ext]); repeat (first | exact Bel.refl _ | assumption | refine bel_and ?_ _ | refine bel_drews ?_ _ | refine Bel.ext ?_ _ | refine Bel.alloc ?_ _ | refine Bel.drewN ?_ _))) (bel_of hq1)
    have O3 := own_here hq
    clear hq hq1
    replace S0 := S0.bel hx
    replace B1 := B1.bel hx
    replace B2 := B2.bel hx
    replace hb := hb.trans hx
    clear hx xlB1 xeB1_0 xlB2 xeB2_0 xeB2_1
    have xlB1 := B1.lt
    have xeB1_0 := B1.eq 0 (.slice A l.length c) rfl
    go_wp2
    go_loopg [7] (L.length) (fun gk i wr => ∃ k : Nat, k ≤ L.length ∧ gk = L.length - k ∧ i = .int .i64 k ∧ Bel W2 wr)
    case atStart => exact ⟨0, Nat.zero_le _, rfl, rfl, Bel.refl _⟩
    case round =>
      obtain ⟨k, hk, rfl, rfl, hB⟩ := hrel
      have hB0 := hB
      replace S0 := S0.bel hB
      replace B1 := B1.bel hB
      replace B2 := B2.bel hB
      replace O3 := O3.bel hB
      replace hb := hb.trans hB
      clear hB
      by_cases hlt : k < L.length
      ·
        obtain ⟨x, hx⟩ : ∃ x, s[k]? = some x := ⟨_, List.getElem?_eq_getElem (by have := HSL.out; omega)⟩
        have HX := Lib.hid hx
        have HXL := Lib.hid (HLs.out k x hx)
        obtain ⟨g3, rfl, hg3, hg4⟩ := O3.at_ (by omega)
        have hlt' : (k : Int) < (L.length : Int) := by omega
        have hR := Lib.hid (rank_at HT.out (show (sortP n d l)[k]? = some x by rw [HS.out]; exact HX.out))
        have hF := Lib.hid (find_mem (timed_zero HT.out).1 (sorted_mem (n := n) (d := d) (show (sortP n d l)[k]? = some x by rw [HS.out]; exact HX.out)))
        clear hx
        by_cases h0 : k = 0
        ·
          have hLd := Lib.hid (leader_at HT.out (show (sortP n d l)[0]? = some x by rw [HS.out, ← h0]; exact HX.out))
          have HX0 := Lib.hid (show L[0]? = some x.id by rw [← h0]; exact HXL.out)
          have h1 : ((k : Int) == 0) = true := by rw [h0]; rfl
          clear h0
          have xlB1 := B1.lt
          have xeB1_0 := B1.eq 0 (.slice A l.length c) rfl
          have xlB2 := B2.lt
          have xeB2_0 := B2.eq 0 (.int .i64 n) rfl
          have xeB2_1 := B2.eq 1 (.int .i64 d) rfl
          have q0 := own_int O3 HXL.out
          have q0l := O3.ats.2
          go_wp2
          ((first | refine RegC.wp_region_ext1 (by kernel_rfl) (by kernel_rfl) ?_ | refine RegC.wp_region_ext0 (by kernel_rfl) (by kernel_rfl) ?_); (repeat (any_goals (first | go_big_quiet_step (first | (go_at_call 54; with_reducible first | exact Calls.ext_of1 (rank_lit A c l x.id n d (k : Int) 0 hR.out _ KN.out KD.out (S0.bel (by (try simp only [ext_ext]); repeat (first | exact Bel.refl _ | assumption | refine bel_and ?_ _ | refine bel_drews ?_ _ | refine Bel.ext ?_ _ | refine Bel.alloc ?_ _ | refine Bel.drewN ?_ _))) HN.out (by have := HL.out; omega)) | exact Calls.ext_of (rank_lit A c l x.id n d (k : Int) 0 hR.out _ KN.out KD.out (S0.bel (by (try simp only [ext_ext]); repeat (first | exact Bel.refl _ | assumption | refine bel_and ?_ _ | refine bel_drews ?_ _ | refine Bel.ext ?_ _ | refine Bel.alloc ?_ _ | refine Bel.drewN ?_ _))) HN.out (by have := HL.out; omega)))) | (refine RegC.wpQuiet_split rfl rfl (fun hb => ?_) (fun hb => ?_) <;> simp only [hb])))); all_goals (refine wpQuiet_nil ?_; rintro W3 hq))
          have hq1 := hq
          have hx : Bel wr W3 := Bel.trans (show Bel wr _ from (by (try simp only [ext_ext]); repeat (first | exact Bel.refl _ | assumption | refine bel_and ?_ _ | refine bel_drews ?_ _ | refine Bel.ext ?_ _ | refine Bel.alloc ?_ _ | refine Bel.drewN ?_ _))) (bel_of hq1)
          clear hq hq1
          replace S0 := S0.bel hx
          replace B1 := B1.bel hx
          replace B2 := B2.bel hx
          replace O3 := O3.bel hx
          replace hb := hb.trans hx
          replace hB0 := hB0.trans hx
          clear hx xlB1 xeB1_0 xlB2 xeB2_0 xeB2_1 q0 q0l
          have xlB1 := B1.lt
          have xeB1_0 := B1.eq 0 (.slice A l.length c) rfl
          have q0 := own_int O3 HXL.out
          have q0l := O3.ats.2
          go_upto_region 10 with (fail)
          go_cut [10, 11] (fun s10 s11 wx => ∃ g : Nat, s10 = .pointer (some ⟨g, 0, none⟩) ∧ s11 = .int .i64 0 ∧ Bel W3 wx ∧ Box wx g #[.int .i64 x.id, .int .i64 x.a, .int .i64 x.b])
          case first =>
            go_region_held3 (fun w' => w'.cell? ⟨w.heap.size, 0, none⟩ = some (.slice A l.length c) ∧ w'.cell? ⟨g3, k, none⟩ = some (.int .i64 x.id)) (simp [go_sem, *]) ((first | (go_at_call 17; (with_reducible refine (find_lit A c l x.id x 0 hF.out _ (S0.bel (by (try simp only [ext_ext]); repeat (first | exact Bel.refl _ | assumption | refine Bel.drew ?_ | refine bel_and ?_ _ | refine bel_drews ?_ _ | refine Bel.ext ?_ _ | refine Bel.alloc ?_ _ | refine Bel.drewN ?_ _)))).mono ?_); rintro e _ ⟨rfl, nx0, rfl⟩)))
            all_goals (go_wp2_with fail; go_meet; exact ⟨_, rfl, rfl, (by (try simp only [ext_ext]); repeat (first | exact Bel.refl _ | assumption | refine Bel.drew ?_ | refine bel_and ?_ _ | refine bel_drews ?_ _ | refine Bel.ext ?_ _ | refine Bel.alloc ?_ _ | refine Bel.drewN ?_ _)), Box.new (e := 26) (by (try simp only [ext_ext]); repeat (first | exact Bel.refl _ | assumption | refine Bel.drew ?_ | refine bel_and ?_ _ | refine bel_drews ?_ _ | refine Bel.ext ?_ _ | refine Bel.alloc ?_ _ | refine Bel.drewN ?_ _)) (by simp)⟩)
          obtain ⟨gB4, rfl, rfl, hx, B4⟩ := hcut
          obtain ⟨W4, rfl⟩ : ∃ W, W = wc := ⟨_, rfl⟩
          replace S0 := S0.bel hx
          replace B1 := B1.bel hx
          replace B2 := B2.bel hx
          replace O3 := O3.bel hx
          replace hb := hb.trans hx
          replace hB0 := hB0.trans hx
          clear hx xlB1 xeB1_0 q0 q0l
          have xlB1 := B1.lt
          have xeB1_0 := B1.eq 0 (.slice A l.length c) rfl
          have xlB2 := B2.lt
          have xeB2_0 := B2.eq 0 (.int .i64 n) rfl
          have xeB2_1 := B2.eq 1 (.int .i64 d) rfl
          go_wp2_with (fail)
          refine (leader_lit A c l n d x.id 0 hLd.out _ KN.out KD.out (S0.bel (by (try simp only [ext_ext]); repeat (first | exact Bel.refl _ | assumption | refine bel_and ?_ _ | refine bel_drews ?_ _ | refine Bel.ext ?_ _ | refine Bel.alloc ?_ _ | refine Bel.drewN ?_ _))) HN.out).mono ?_
          rintro e W5 ⟨rfl, hq⟩
          have hq1 := hq
          have hx : Bel W4 W5 := Bel.trans (show Bel W4 _ from (by (try simp only [ext_ext]); repeat (first | exact Bel.refl _ | assumption | refine bel_and ?_ _ | refine bel_drews ?_ _ | refine Bel.ext ?_ _ | refine Bel.alloc ?_ _ | refine Bel.drewN ?_ _))) (bel_of hq1)
          clear hq hq1
          replace S0 := S0.bel hx
          replace B1 := B1.bel hx
          replace B2 := B2.bel hx
          replace O3 := O3.bel hx
          replace B4 := B4.bel hx
          replace hb := hb.trans hx
          replace hB0 := hB0.trans hx
          clear hx xlB1 xeB1_0 xlB2 xeB2_0 xeB2_1
          have q0 := own_int O3 HX0.out
          have q0l := O3.ats.2
          go_wp2
          go_roundg (L.length - (k + 1))
          case measure => omega
          case rel => exact ⟨k + 1, by omega, rfl, by go_num, Bel.trans hB0 (by (try simp only [ext_ext]); repeat (first | exact Bel.refl _ | assumption | refine bel_and ?_ _ | refine bel_drews ?_ _ | refine Bel.ext ?_ _ | refine Bel.alloc ?_ _ | refine Bel.drewN ?_ _))⟩
        ·
          obtain ⟨j, hj⟩ : ∃ j, k = j + 1 := ⟨k - 1, by omega⟩
          obtain ⟨x1, hx1⟩ : ∃ x, s[j]? = some x := ⟨_, List.getElem?_eq_getElem (by have := HSL.out; omega)⟩
          have HXL1 := Lib.hid (HLs.out j x1 hx1)
          have hF1 := Lib.hid (find_mem (timed_zero HT.out).1 (sorted_mem (n := n) (d := d) (show (sortP n d l)[j]? = some x1 by rw [HS.out]; exact hx1)))
          have hA := Lib.hid (ahead_at HT.out (show j < k by omega) (show (sortP n d l)[j]? = some x1 by rw [HS.out]; exact hx1) (show (sortP n d l)[k]? = some x by rw [HS.out]; exact HX.out))
          have h1 : ((k : Int) == 0) = false := by rw [beq_eq_false_iff_ne]; omega
          have HJ := Lib.hid hj
          clear hx1 h0 hj
          have xlB1 := B1.lt
          have xeB1_0 := B1.eq 0 (.slice A l.length c) rfl
          have xlB2 := B2.lt
          have xeB2_0 := B2.eq 0 (.int .i64 n) rfl
          have xeB2_1 := B2.eq 1 (.int .i64 d) rfl
          have q0 := own_int O3 HXL.out
          have q0l := O3.ats.2
          go_wp2
          ((first | refine RegC.wp_region_ext1 (by kernel_rfl) (by kernel_rfl) ?_ | refine RegC.wp_region_ext0 (by kernel_rfl) (by kernel_rfl) ?_); (repeat (any_goals (first | go_big_quiet_step (first | (go_at_call 54; with_reducible first | exact Calls.ext_of1 (rank_lit A c l x.id n d (k : Int) 0 hR.out _ KN.out KD.out (S0.bel (by (try simp only [ext_ext]); repeat (first | exact Bel.refl _ | assumption | refine bel_and ?_ _ | refine bel_drews ?_ _ | refine Bel.ext ?_ _ | refine Bel.alloc ?_ _ | refine Bel.drewN ?_ _))) HN.out (by have := HL.out; omega)) | exact Calls.ext_of (rank_lit A c l x.id n d (k : Int) 0 hR.out _ KN.out KD.out (S0.bel (by (try simp only [ext_ext]); repeat (first | exact Bel.refl _ | assumption | refine bel_and ?_ _ | refine bel_drews ?_ _ | refine Bel.ext ?_ _ | refine Bel.alloc ?_ _ | refine Bel.drewN ?_ _))) HN.out (by have := HL.out; omega)))) | (refine RegC.wpQuiet_split rfl rfl (fun hb => ?_) (fun hb => ?_) <;> simp only [hb])))); all_goals (refine wpQuiet_nil ?_; rintro W3 hq))
          have hq1 := hq
          have hx : Bel wr W3 := Bel.trans (show Bel wr _ from (by (try simp only [ext_ext]); repeat (first | exact Bel.refl _ | assumption | refine bel_and ?_ _ | refine bel_drews ?_ _ | refine Bel.ext ?_ _ | refine Bel.alloc ?_ _ | refine Bel.drewN ?_ _))) (bel_of hq1)
          clear hq hq1
          replace S0 := S0.bel hx
          replace B1 := B1.bel hx
          replace B2 := B2.bel hx
          replace O3 := O3.bel hx
          replace hb := hb.trans hx
          replace hB0 := hB0.trans hx
          clear hx xlB1 xeB1_0 xlB2 xeB2_0 xeB2_1 q0 q0l
          have xlB1 := B1.lt
          have xeB1_0 := B1.eq 0 (.slice A l.length c) rfl
          have q0 := own_int O3 HXL.out
          have q0l := O3.ats.2
          go_upto_region 10 with (fail)
          go_cut [10, 11] (fun s10 s11 wx => ∃ g : Nat, s10 = .pointer (some ⟨g, 0, none⟩) ∧ s11 = .int .i64 0 ∧ Bel W3 wx ∧ Box wx g #[.int .i64 x.id, .int .i64 x.a, .int .i64 x.b])
          case first =>
            go_region_held3 (fun w' => w'.cell? ⟨w.heap.size, 0, none⟩ = some (.slice A l.length c) ∧ w'.cell? ⟨g3, k, none⟩ = some (.int .i64 x.id)) (simp [go_sem, *]) ((first | (go_at_call 17; (with_reducible refine (find_lit A c l x.id x 0 hF.out _ (S0.bel (by (try simp only [ext_ext]); repeat (first | exact Bel.refl _ | assumption | refine Bel.drew ?_ | refine bel_and ?_ _ | refine bel_drews ?_ _ | refine Bel.ext ?_ _ | refine Bel.alloc ?_ _ | refine Bel.drewN ?_ _)))).mono ?_); rintro e _ ⟨rfl, nx0, rfl⟩)))
            all_goals (go_wp2_with fail; go_meet; exact ⟨_, rfl, rfl, (by (try simp only [ext_ext]); repeat (first | exact Bel.refl _ | assumption | refine Bel.drew ?_ | refine bel_and ?_ _ | refine bel_drews ?_ _ | refine Bel.ext ?_ _ | refine Bel.alloc ?_ _ | refine Bel.drewN ?_ _)), Box.new (e := 26) (by (try simp only [ext_ext]); repeat (first | exact Bel.refl _ | assumption | refine Bel.drew ?_ | refine bel_and ?_ _ | refine bel_drews ?_ _ | refine Bel.ext ?_ _ | refine Bel.alloc ?_ _ | refine Bel.drewN ?_ _)) (by simp)⟩)
          obtain ⟨gB4, rfl, rfl, hx, B4⟩ := hcut
          obtain ⟨W4, rfl⟩ : ∃ W, W = wc := ⟨_, rfl⟩
          replace S0 := S0.bel hx
          replace B1 := B1.bel hx
          replace B2 := B2.bel hx
          replace O3 := O3.bel hx
          replace hb := hb.trans hx
          replace hB0 := hB0.trans hx
          clear hx xlB1 xeB1_0 q0 q0l
          have xlB1 := B1.lt
          have xeB1_0 := B1.eq 0 (.slice A l.length c) rfl
          have q0 := own_int O3 HXL1.out
          have q0l := O3.ats.2
          have s1 : IntKind.i64.wrap ((k : Int) - 1) = (k : Int) - 1 := IntWalk.i64_in _ (by have := HL.out; have := HLL.out; omega)
          have s2 : ((k : Int) - 1).toNat = j := by have := HJ.out; omega
          have s3 : 0 ≤ (k : Int) - 1 := by have := HJ.out; omega
          have s5 : 1 ≤ (k : Int) := by have := HJ.out; omega
          have s4 : (k : Int) - 1 < (L.length : Int) := by omega
          go_upto_region 17 with (fail)
          go_cut [14, 15] (fun s14 s15 wx => ∃ g : Nat, s14 = .pointer (some ⟨g, 0, none⟩) ∧ s15 = .int .i64 0 ∧ Bel W4 wx ∧ Box wx g #[.int .i64 x1.id, .int .i64 x1.a, .int .i64 x1.b])
          case first =>
            go_region_held3 (fun w' => w'.cell? ⟨w.heap.size, 0, none⟩ = some (.slice A l.length c) ∧ w'.cell? ⟨g3, j, none⟩ = some (.int .i64 x1.id)) (simp [go_sem, *]) ((first | (go_at_call 17; (with_reducible refine (find_lit A c l x1.id x1 0 hF1.out _ (S0.bel (by (try simp only [ext_ext]); repeat (first | exact Bel.refl _ | assumption | refine Bel.drew ?_ | refine bel_and ?_ _ | refine bel_drews ?_ _ | refine Bel.ext ?_ _ | refine Bel.alloc ?_ _ | refine Bel.drewN ?_ _)))).mono ?_); rintro e _ ⟨rfl, nx0, rfl⟩)))
            all_goals (go_wp2_with fail; go_meet; exact ⟨_, rfl, rfl, (by (try simp only [ext_ext]); repeat (first | exact Bel.refl _ | assumption | refine Bel.drew ?_ | refine bel_and ?_ _ | refine bel_drews ?_ _ | refine Bel.ext ?_ _ | refine Bel.alloc ?_ _ | refine Bel.drewN ?_ _)), Box.new (e := 26) (by (try simp only [ext_ext]); repeat (first | exact Bel.refl _ | assumption | refine Bel.drew ?_ | refine bel_and ?_ _ | refine bel_drews ?_ _ | refine Bel.ext ?_ _ | refine Bel.alloc ?_ _ | refine Bel.drewN ?_ _)) (by simp)⟩)
          obtain ⟨gB5, rfl, rfl, hx, B5⟩ := hcut
          obtain ⟨W5, rfl⟩ : ∃ W, W = wc := ⟨_, rfl⟩
          replace B2 := B2.bel hx
          replace B4 := B4.bel hx
          replace hb := hb.trans hx
          replace hB0 := hB0.trans hx
          clear hx xlB1 xeB1_0 q0 q0l s1 s2 s3 s4 s5 S0 B1 O3
          have xlB5 := B5.lt
          have xeB5_0 := B5.eq 0 (.int .i64 x1.id) rfl
          have xeB5_1 := B5.eq 1 (.int .i64 x1.a) rfl
          have xeB5_2 := B5.eq 2 (.int .i64 x1.b) rfl
          have xlB4 := B4.lt
          have xeB4_0 := B4.eq 0 (.int .i64 x.id) rfl
          have xeB4_1 := B4.eq 1 (.int .i64 x.a) rfl
          have xeB4_2 := B4.eq 2 (.int .i64 x.b) rfl
          have xlB2 := B2.lt
          have xeB2_0 := B2.eq 0 (.int .i64 n) rfl
          have xeB2_1 := B2.eq 1 (.int .i64 d) rfl
          go_wp2_with (fail)
          refine (ahead_lit x1 x n d true 0 hA.out _ KN.out KD.out).mono ?_
          rintro e W6 ⟨rfl, hq⟩
          have hq1 := hq
          have hx : Bel W5 W6 := Bel.trans (show Bel W5 _ from (by (try simp only [ext_ext]); repeat (first | exact Bel.refl _ | assumption | refine bel_and ?_ _ | refine bel_drews ?_ _ | refine Bel.ext ?_ _ | refine Bel.alloc ?_ _ | refine Bel.drewN ?_ _))) (bel_of hq1)
          clear hq hq1
          replace hb := hb.trans hx
          replace hB0 := hB0.trans hx
          clear hx xlB5 xeB5_0 xeB5_1 xeB5_2 xlB4 xeB4_0 xeB4_1 xeB4_2 xlB2 xeB2_0 xeB2_1 B2 B4 B5
          go_wp2
          go_roundg (L.length - (k + 1))
          case measure => omega
          case rel => exact ⟨k + 1, by omega, rfl, by go_num, Bel.trans hB0 (by (try simp only [ext_ext]); repeat (first | exact Bel.refl _ | assumption | refine bel_and ?_ _ | refine bel_drews ?_ _ | refine Bel.ext ?_ _ | refine Bel.alloc ?_ _ | refine Bel.drewN ?_ _))⟩
      ·
        obtain rfl : k = L.length := by omega
        go_wp2_with (fail)
        refine (alive03_any _).mono ?_
        rintro e W3 ⟨rfl, hq⟩
        have hq1 := hq
        have hx : Bel wr W3 := Bel.trans (show Bel wr _ from (by (try simp only [ext_ext]); repeat (first | exact Bel.refl _ | assumption | refine bel_and ?_ _ | refine bel_drews ?_ _ | refine Bel.ext ?_ _ | refine Bel.alloc ?_ _ | refine Bel.drewN ?_ _))) (bel_of hq1)
        clear hq hq1
        replace hb := hb.trans hx
        replace hB0 := hB0.trans hx
        clear hx
        go_wp2
        (go_ret; exact ⟨ret_bool (by rfl), ext_of (by (try simp only [ext_ext]); repeat (first | exact Bel.refl _ | assumption | refine bel_and ?_ _ | refine bel_drews ?_ _ | refine Bel.ext ?_ _ | refine Bel.alloc ?_ _ | refine Bel.drewN ?_ _))⟩)
set_option maxRecDepth 100000 in
theorem fieldOnce_lifted (os : Os) (started : os.Started) (H : Type) (enc : TypeId × Value → H) :
    ReturnsInHanded {} Try.checked os 10 .any (Rows.fieldOnceSpec.pre6 enc Try.prog Try.f10 Rows.fieldOnceRow.domain false) (Rows.fieldOnceSpec.post enc Try.prog Try.f10 false true false false) := by
  refine returnsInHanded_of_change (C := Try.checked) ownKnob_ started (by kernel_rfl) Try.func10
    (ChangeSpec.witness6 (enc := enc) (C := Try.checked) false ⟨#[], #[.agg #[.slice none 0 0], .agg #[.int .i64 0, .int .i64 0]], []⟩ 8 (by kernel_rfl) (by kernel_rfl) (by kernel_rfl) (by kernel_rfl)) ?_
  intro W base args ds gs before hval0 hW hcnd _
  have hval : ∀ (j : Nat) t v, Try.f10.params[j]? = some t → args[j]? = some v → Value.okWide Try.prog W .any base t v := hval0
  have hW' := hW
  obtain ⟨p, q, hA0, hV, rfl, hfz, hnd⟩ := hW
  have hA : DataW.TrodAll enc Try.prog W 0 (fun _ => true) true Try.f10.params.toList args.toList ds p := hA0
  rw [Try.params10] at hA hval
  obtain ⟨v0, vs0, d0, ds0, p0, q0, hargs, rfl, rfl, h0, r0⟩ := trodAll_cons hA
  obtain ⟨v1, vs1, d1, ds1, p1, q1, rfl, rfl, rfl, h1, r1⟩ := trodAll_cons r0
  obtain ⟨rfl, rfl, rfl⟩ := trodAll_nil r1
  obtain rfl : args = #[v0, v1] := by cases args; simp_all
  obtain ⟨rfl, rfl⟩ := trodVars_none hV
  have k0_ := h0
  have lt0 : ∀ x ∈ p0, x.block < W.heap.size := by obtain ⟨m, hm⟩ := k0_; exact DataW.trod_lt m _ _ _ hm
  have k1_ := h1
  have lt1 : ∀ x ∈ p1, x.block < W.heap.size := by obtain ⟨m, hm⟩ := k1_; exact DataW.trod_lt m _ _ _ hm
  obtain ⟨cs0, rfl, hsz0⟩ := okWide_struct Try.underlying24 (hval 0 24 v0 rfl rfl)
  obtain ⟨l0⟩ := cs0
  obtain ⟨fuel0, hf0⟩ := h0
  obtain ⟨A0, c0, l0, rfl, hsl0, hnil0, hfit0⟩ := field_cells hf0 (by rw [cellsF_field] at hsz0; exact hsz0)
  obtain ⟨cs1, rfl, hsz1⟩ := okWide_struct Try.underlying49 (hval 1 49 v1 rfl rfl)
  obtain ⟨l1⟩ := cs1
  obtain ⟨fuel1, hf1⟩ := h1
  obtain ⟨n1, d1, rfl, hfitn1, hfitd1⟩ := ratio_cells hf1 (by rw [cellsF_ratio] at hsz1; exact hsz1)
  clear hA0 hval0
  refine (fonce_walk A0 c0 l0 n1 d1 _ hsl0 hnil0 hfitn1 hfitd1).mono fun e W' ⟨he, hx⟩ => ?_
  have bel : Below W.heap.size W W' := (bel_of hx).toBelow
  subst he
  exact ⟨_, rfl, _, _, _, [], _, [], hW', trodAll_mk1 (shut_bool Try.underlying4 _), (trodAll_cons_mk (Below.trod laidOut_ (by kernel_rfl) (of_decide_eq_true (by kernel_rfl)) k0_ bel lt0) (trodAll_cons_mk (Below.trod laidOut_ (by kernel_rfl) (of_decide_eq_true (by kernel_rfl)) k1_ bel lt1) trodAll_mk0)), rfl, bel.frame _, fun h => by cases h⟩
theorem fieldOnce_over : Rows.fieldOnceRow.holds Try.pinned (OpenSpec.ofChange Rows.fieldOnceSpec) :=
  OpenClaim.holds_of_wide 10 Try.f10 rfl rfl rfl rfl rfl rfl rfl ⟨rfl, rfl, rfl, rfl, rfl⟩ rfl rfl rfl rfl rfl (by kernel_rfl) Try.func10 (by kernel_rfl)
    (of_decide_eq_true (by kernel_rfl)) (by unfold Func.isWrapper; rw [if_neg (of_decide_eq_false (by kernel_rfl))]; exact ⟨rfl, rfl⟩)
    (fun os started H enc _ => fieldOnce_lifted os started H enc)
/-- The statement. -/
theorem fieldOnce_holds : Rows.FieldOnceSaid := fieldOnce_over
end Go.Proofs.Ytkcpnclgcmnlcaa
