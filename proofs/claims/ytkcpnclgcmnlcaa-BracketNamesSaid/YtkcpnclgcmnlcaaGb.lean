/- Walks of the functions of fields, fractions and points. -/
import Derived.Test.YtkcpnclgcmnlcaaRows
import Derived.IntWalk
import Derived.Deep.RegionHeld3
import Derived.Test.YtkcpnclgcmnlcaaGa
set_option linter.unusedSimpArgs false
set_option linter.unusedVariables false
namespace Go.Proofs.Ytkcpnclgcmnlcaa
open Go.RowKit Go.Pel
theorem ret_int {k : IntKind} {a b : Int} (h : a = b) : Ending.returned (.int k a) = .returned (.int k b) := by rw [h]
theorem ret_bool {a b : Bool} (h : a = b) : Ending.returned (.bool a) = .returned (.bool b) := by rw [h]

set_option maxHeartbeats 400000 in
theorem abs_any (n : Int) (w : World) (h : -9223372036854775808 ≤ n ∧ n ≤ 9223372036854775807) :
    Calls Try.prog 122 #[.int .i64 n] w fun e w' => e = .returned (.int .u64 n.natAbs) ∧ ∃ x, w' = ext w x := by
  obtain ⟨h1, h2⟩ := h
  go_enter Try.func122, Try.ntmps122
  go_wp2
  all_goals (go_ret; exact ⟨ret_int (by first | (simp only [IntKind.wrap_u64]; omega) | omega), ext_of (Bel.refl _)⟩)

set_option maxHeartbeats 400000 in
theorem size_any (n : Int) (w : World) (h : -9223372036854775808 ≤ n ∧ n ≤ 9223372036854775807) :
    Calls Try.prog 112 #[.int .i64 n] w fun e w' => e = .returned (.int .u64 n.natAbs) ∧ ∃ x, w' = ext w x := by
  obtain ⟨h1, h2⟩ := h
  go_enter Try.func112, Try.ntmps112
  go_wp2
  all_goals (go_ret; exact ⟨ret_int (by first | (simp only [IntKind.wrap_u64]; omega) | omega), ext_of (Bel.refl _)⟩)

set_option maxHeartbeats 400000 in
theorem gcd_any (a b : Nat) (w : World) (ha : a < 18446744073709551616) (hb : b < 18446744073709551616) :
    Calls Try.prog 121 #[.int .u64 a, .int .u64 b] w fun e w' => e = .returned (.int .u64 (Nat.gcd a b)) ∧ ∃ x, w' = ext w x := by
  go_enter Try.func121, Try.ntmps121
  go_wp2
  go_loopw [0,1] (fun x y wr => ∃ x0 y0 : Nat, x = .int .u64 x0 ∧ y = .int .u64 y0 ∧ x0 < 18446744073709551616 ∧ y0 < 18446744073709551616 ∧ Nat.gcd x0 y0 = Nat.gcd a b ∧ ∃ x, wr = ext w x) (fun _ y _ => (intOf y).toNat)
  case atStart => exact ⟨a, b, rfl, rfl, ha, hb, rfl, ext_of (Bel.refl _)⟩
  case round =>
    obtain ⟨x0, y0, rfl, rfl, hx, hy, hg, x, rfl⟩ := hrel
    have HG := Lib.hid hg; clear hg
    by_cases hlt : 0 < y0
    · go_wp2
      ((first | refine RegC.wp_region_ext1 (by kernel_rfl) (by kernel_rfl) ?_ | refine RegC.wp_region_ext0 (by kernel_rfl) (by kernel_rfl) ?_); (repeat (any_goals (first | go_big_quiet_step (fail) | (refine RegC.wpQuiet_split rfl rfl (fun hb => ?_) (fun hb => ?_) <;> simp only [hb])))); all_goals (refine wpQuiet_nil ?_; rintro _ ⟨nq, rfl⟩))
      go_wp2
      go_roundw
      case rel => exact ⟨y0, x0 % y0, rfl, by simp, hy, Nat.lt_of_lt_of_le (Nat.mod_lt _ hlt) (by omega), by rw [← HG.out, Nat.gcd_comm x0 y0, Nat.gcd_rec y0 x0, Nat.gcd_comm], _, rfl⟩
      case measure => simp [intOf]; exact Nat.mod_lt _ hlt
    · go_wp2
      go_ret
      obtain rfl : y0 = 0 := by omega
      exact ⟨ret_int (by rw [← HG.out]; simp), _, rfl⟩

set_option maxHeartbeats 400000 in
theorem common_any (a b : Nat) (w : World) (ha : a < 18446744073709551616) (hb : b < 18446744073709551616) :
    Calls Try.prog 111 #[.int .u64 a, .int .u64 b] w fun e w' => e = .returned (.int .u64 (Nat.gcd a b)) ∧ ∃ x, w' = ext w x := by
  go_enter Try.func111, Try.ntmps111
  go_wp2
  go_loopw [0,1] (fun x y wr => ∃ x0 y0 : Nat, x = .int .u64 x0 ∧ y = .int .u64 y0 ∧ x0 < 18446744073709551616 ∧ y0 < 18446744073709551616 ∧ Nat.gcd x0 y0 = Nat.gcd a b ∧ ∃ x, wr = ext w x) (fun _ y _ => (intOf y).toNat)
  case atStart => exact ⟨a, b, rfl, rfl, ha, hb, rfl, ext_of (Bel.refl _)⟩
  case round =>
    obtain ⟨x0, y0, rfl, rfl, hx, hy, hg, x, rfl⟩ := hrel
    have HG := Lib.hid hg; clear hg
    by_cases hlt : 0 < y0
    · have hn : ((y0 : Int) != 0) = true := by rw [bne_iff_ne]; omega
      go_wp2
      ((first | refine RegC.wp_region_ext1 (by kernel_rfl) (by kernel_rfl) ?_ | refine RegC.wp_region_ext0 (by kernel_rfl) (by kernel_rfl) ?_); (repeat (any_goals (first | go_big_quiet_step (fail) | (refine RegC.wpQuiet_split rfl rfl (fun hb => ?_) (fun hb => ?_) <;> simp only [hb])))); all_goals (refine wpQuiet_nil ?_; rintro _ ⟨nq, rfl⟩))
      go_wp2
      go_roundw
      case rel => exact ⟨y0, x0 % y0, rfl, by simp, hy, Nat.lt_of_lt_of_le (Nat.mod_lt _ hlt) (by omega), by rw [← HG.out, Nat.gcd_comm x0 y0, Nat.gcd_rec y0 x0, Nat.gcd_comm], _, rfl⟩
      case measure => simp [intOf]; exact Nat.mod_lt _ hlt
    · obtain rfl : y0 = 0 := by omega
      go_wp2
      go_ret
      exact ⟨ret_int (by rw [← HG.out]; simp), _, rfl⟩

set_option maxHeartbeats 400000 in
theorem ratioCheck_any (n d : Int) (w : World) (h : -9223372036854775808 ≤ n ∧ n ≤ 9223372036854775807) (h' : -9223372036854775808 ≤ d ∧ d ≤ 9223372036854775807) :
    Calls Try.prog 102 #[.agg #[.int .i64 n, .int .i64 d]] w fun e w' => e = .returned (.int .i64 (ratioChk n d)) ∧ ∃ x, w' = ext w x := by
  obtain ⟨h1, h2⟩ := h
  obtain ⟨h3, h4⟩ := h'
  by_cases c1 : d < 1
  · have e1 := Lib.hid (ratioChk_low (n := n) c1)
    go_enter Try.func102, Try.ntmps102
    go_wp2
    ((first | refine RegC.wp_region_ext1 (by kernel_rfl) (by kernel_rfl) ?_ | refine RegC.wp_region_ext0 (by kernel_rfl) (by kernel_rfl) ?_); (repeat (any_goals (first | go_big_quiet_step (fail) | (refine RegC.wpQuiet_split rfl rfl (fun hb => ?_) (fun hb => ?_) <;> simp only [hb])))); all_goals (refine wpQuiet_nil ?_; rintro _ ⟨nq, rfl⟩))
    go_wp2
    go_ret
    exact ⟨ret_int e1.out.symm, ext_of (((Bel.refl _).alloc _).ext _)⟩
  · have c1' : decide (d < 1) = false := by simpa using c1
    by_cases c2 : n = -9223372036854775808
    · subst c2
      go_enter Try.func102, Try.ntmps102
      go_wp2
      ((first | refine RegC.wp_region_ext1 (by kernel_rfl) (by kernel_rfl) ?_ | refine RegC.wp_region_ext0 (by kernel_rfl) (by kernel_rfl) ?_); (repeat (any_goals (first | go_big_quiet_step (fail) | (refine RegC.wpQuiet_split rfl rfl (fun hb => ?_) (fun hb => ?_) <;> simp only [hb])))); all_goals (refine wpQuiet_nil ?_; rintro _ ⟨nq, rfl⟩))
      go_wp2
      go_ret
      exact ⟨ret_int ratioChk_min.symm, ext_of (((Bel.refl _).alloc _).ext _)⟩
    · have c2' : (n == -9223372036854775808) = false := by simpa using c2
      have E1 := Lib.hid (ratioChk_one (n := n) (d := d) (by omega) c2)
      have E2 := Lib.hid (ratioChk_more (n := n) (d := d))
      have E3 := Lib.hid (gcd_one (n := n) (d := d) (by omega))
      obtain ⟨dn, rfl⟩ : ∃ dn : Nat, d = dn := ⟨d.toNat, by omega⟩
      go_enter Try.func102, Try.ntmps102
      go_wp2
      ((first | refine RegC.wp_region_ext1 (by kernel_rfl) (by kernel_rfl) ?_ | refine RegC.wp_region_ext0 (by kernel_rfl) (by kernel_rfl) ?_); (repeat (any_goals (first | go_big_quiet_step (first | (go_at_call 122; first | exact Calls.ext_of1 (abs_any _ _ (by omega)) | exact Calls.ext_of (abs_any _ _ (by omega))) | (go_at_call 121; first | exact Calls.ext_of1 (gcd_any _ _ _ (by omega) (by omega)) | exact Calls.ext_of (gcd_any _ _ _ (by omega) (by omega)))) | (refine RegC.wpQuiet_split rfl rfl (fun hb => ?_) (fun hb => ?_) <;> simp only [hb])))); all_goals (refine wpQuiet_nil ?_; rintro _ ⟨nq, rfl⟩))
      go_wp2
      · have hg : 1 < Nat.gcd dn n.natAbs := by omega
        go_ret
        exact ⟨ret_int (E2.out (by simp only [Int.toNat_natCast]; omega)).symm, ext_of (((Bel.refl _).alloc _).ext _)⟩
      · have hg : ¬ 1 < Nat.gcd dn n.natAbs := by omega
        go_ret
        exact ⟨ret_int (E1.out (E3.out (by simpa using hg))).symm, ext_of (((Bel.refl _).alloc _).ext _)⟩


end Go.Proofs.Ytkcpnclgcmnlcaa

namespace Go.Proofs.Ytkcpnclgcmnlcaa
open Go.RowKit Go.Pel
set_option maxHeartbeats 400000 in
theorem ref01Check_any (n d : Int) (w : World) (hn : -9223372036854775808 ≤ n ∧ n ≤ 9223372036854775807) (hd : -9223372036854775808 ≤ d ∧ d ≤ 9223372036854775807) :
    Calls Try.prog 89 #[.agg #[.int .i64 n, .int .i64 d]] w fun e w' => e = .returned (.int .i64 (ratioChk n d)) ∧ ∃ x, w' = ext w x := by
  obtain ⟨hn1, hn2⟩ := hn; obtain ⟨hd1, hd2⟩ := hd
  by_cases c1 : d < 1
  · have e1 := Lib.hid (ratioChk_low (n := n) c1)
    go_enter Try.func89, Try.ntmps89
    go_wp2
    ((first | refine RegC.wp_region_ext1 (by kernel_rfl) (by kernel_rfl) ?_ | refine RegC.wp_region_ext0 (by kernel_rfl) (by kernel_rfl) ?_); (repeat (any_goals (first | go_big_quiet_step (fail) | (refine RegC.wpQuiet_split rfl rfl (fun hb => ?_) (fun hb => ?_) <;> simp only [hb])))); all_goals (refine wpQuiet_nil ?_; rintro _ ⟨nq, rfl⟩))
    go_wp2
    (go_ret; exact ⟨ret_int (by exact e1.out.symm), ext_of (by (try simp only [ext_ext]); repeat (first | exact Bel.refl _ | assumption | refine bel_and ?_ _ | refine bel_drews ?_ _ | refine Bel.ext ?_ _ | refine Bel.alloc ?_ _ | refine Bel.drewN ?_ _))⟩)
  · have c1' : decide (d < 1) = false := by simpa using c1
    by_cases c2 : n = -9223372036854775808
    · subst c2
      go_enter Try.func89, Try.ntmps89
      go_wp2
      ((first | refine RegC.wp_region_ext1 (by kernel_rfl) (by kernel_rfl) ?_ | refine RegC.wp_region_ext0 (by kernel_rfl) (by kernel_rfl) ?_); (repeat (any_goals (first | go_big_quiet_step (fail) | (refine RegC.wpQuiet_split rfl rfl (fun hb => ?_) (fun hb => ?_) <;> simp only [hb])))); all_goals (refine wpQuiet_nil ?_; rintro _ ⟨nq, rfl⟩))
      go_wp2
      (go_ret; exact ⟨ret_int (by exact ratioChk_min.symm), ext_of (by (try simp only [ext_ext]); repeat (first | exact Bel.refl _ | assumption | refine bel_and ?_ _ | refine bel_drews ?_ _ | refine Bel.ext ?_ _ | refine Bel.alloc ?_ _ | refine Bel.drewN ?_ _))⟩)
    · have c2' : (n == -9223372036854775808) = false := by simpa using c2
      have E1 := Lib.hid (ratioChk_one (n := n) (d := d) (by omega) c2)
      have E2 := Lib.hid (ratioChk_more (n := n) (d := d))
      obtain ⟨dn, rfl⟩ : ∃ dn : Nat, d = dn := ⟨d.toNat, by omega⟩
      go_enter Try.func89, Try.ntmps89
      go_wp2
      ((first | refine RegC.wp_region_ext1 (by kernel_rfl) (by kernel_rfl) ?_ | refine RegC.wp_region_ext0 (by kernel_rfl) (by kernel_rfl) ?_); (repeat (any_goals (first | go_big_quiet_step (first | (go_at_call 112; first | exact Calls.ext_of1 (size_any _ _ (by omega)) | exact Calls.ext_of (size_any _ _ (by omega))) | (go_at_call 111; first | exact Calls.ext_of1 (common_any _ _ _ (by omega) (by omega)) | exact Calls.ext_of (common_any _ _ _ (by omega) (by omega)))) | (refine RegC.wpQuiet_split rfl rfl (fun hb => ?_) (fun hb => ?_) <;> simp only [hb])))); all_goals (refine wpQuiet_nil ?_; rintro _ ⟨nq, rfl⟩))
      go_wp2
      all_goals (go_ret; exact ⟨ret_int (by first | exact (E2.out (by rw [Int.toNat_natCast, Nat.gcd_comm]; (first | omega | (simp only [bne_iff_ne, ne_eq, bne_eq_false_iff_eq, beq_iff_eq, beq_eq_false_iff_ne, decide_eq_true_eq, decide_eq_false_iff_not, Bool.or_eq_true, Bool.and_eq_true, Bool.not_eq_true, Bool.not_eq_true', Bool.not_eq_false'] at *; omega)))).symm | exact (E1.out (by rw [Int.toNat_natCast, Nat.gcd_comm]; (first | omega | (simp only [bne_iff_ne, ne_eq, bne_eq_false_iff_eq, beq_iff_eq, beq_eq_false_iff_ne, decide_eq_true_eq, decide_eq_false_iff_not, Bool.or_eq_true, Bool.and_eq_true, Bool.not_eq_true, Bool.not_eq_true', Bool.not_eq_false'] at *; omega)))).symm), ext_of (by (try simp only [ext_ext]); repeat (first | exact Bel.refl _ | assumption | refine bel_and ?_ _ | refine bel_drews ?_ _ | refine Bel.ext ?_ _ | refine Bel.alloc ?_ _ | refine Bel.drewN ?_ _))⟩)


set_option maxHeartbeats 400000 in
theorem far_any (n : Int) (w : World) : Calls Try.prog 96 #[.int .i64 n] w fun e w' => e = .returned (.bool (far n)) ∧ ∃ x, w' = ext w x := by
  go_enter Try.func96, Try.ntmps96
  go_wp2
  all_goals (go_ret; exact ⟨ret_bool (by first | exact (far_eq _).symm | (rw [far_eq]; simp [*]; done) | (rw [far_eq]; simp; omega)), ext_of (by (try simp only [ext_ext]); repeat (first | exact Bel.refl _ | assumption | refine bel_and ?_ _ | refine bel_drews ?_ _ | refine Bel.ext ?_ _ | refine Bel.alloc ?_ _ | refine Bel.drewN ?_ _))⟩)

set_option maxHeartbeats 400000 in
theorem courseCheck_any (i a b : Int) (w : World) :
    Calls Try.prog 67 #[.agg #[.int .i64 i, .int .i64 a, .int .i64 b]] w fun e w' => e = .returned (.int .i64 (pointChk i a b)) ∧ ∃ x, w' = ext w x := by
  have E1 := Lib.hid (pointChk_yes (i := i) (a := a) (b := b))
  have E2 := Lib.hid (pointChk_no (i := i) (a := a) (b := b))
  go_enter Try.func67, Try.ntmps67
  go_wp2_with (first | (go_at_call 96; refine (far_any _ _).mono ?_; rintro e _ ⟨rfl, nx, rfl⟩))
  all_goals (go_ret; exact ⟨ret_int (by (try simp only [far_iff, far_iff_false] at *); first | exact (E2.out (by omega)).symm | exact (E1.out (by omega)).symm), ext_of (by (try simp only [ext_ext]); repeat (first | exact Bel.refl _ | assumption | refine bel_and ?_ _ | refine bel_drews ?_ _ | refine Bel.ext ?_ _ | refine Bel.alloc ?_ _ | refine Bel.drewN ?_ _))⟩)

set_option maxHeartbeats 400000 in
theorem ref02Check_any (i a b : Int) (w : World) :
    Calls Try.prog 61 #[.agg #[.int .i64 i, .int .i64 a, .int .i64 b]] w fun e w' => e = .returned (.int .i64 (pointChk i a b)) ∧ ∃ x, w' = ext w x := by
  have E1 := Lib.hid (pointChk_yes (i := i) (a := a) (b := b))
  have E2 := Lib.hid (pointChk_no (i := i) (a := a) (b := b))
  go_enter Try.func61, Try.ntmps61
  go_wp2
  all_goals (go_ret; exact ⟨ret_int (by first | exact (E1.out (by omega)).symm | exact (E2.out (by omega)).symm), ext_of (by (try simp only [ext_ext]); repeat (first | exact Bel.refl _ | assumption | refine bel_and ?_ _ | refine bel_drews ?_ _ | refine Bel.ext ?_ _ | refine Bel.alloc ?_ _ | refine Bel.drewN ?_ _))⟩)
end Go.Proofs.Ytkcpnclgcmnlcaa

namespace Go.Proofs.Ytkcpnclgcmnlcaa
open Go.RowKit Go.Pel
theorem pchk_lit (p : Pt) (v : Int) (h : p.chk = v) (W : World) : Calls Try.prog 67 #[.agg #[.int .i64 p.id, .int .i64 p.a, .int .i64 p.b]] W fun e w' => e = .returned (.int .i64 v) ∧ ∃ y, w' = ext W y := by
  subst h; exact courseCheck_any p.id p.a p.b W
theorem pchk2_lit (p : Pt) (v : Int) (h : p.chk = v) (W : World) : Calls Try.prog 61 #[.agg #[.int .i64 p.id, .int .i64 p.a, .int .i64 p.b]] W fun e w' => e = .returned (.int .i64 v) ∧ ∃ y, w' = ext W y := by
  subst h; exact ref02Check_any p.id p.a p.b W
set_option maxRecDepth 10000 in
set_option maxHeartbeats 2000000 in
theorem fieldCheck_any (A : Option Addr) (c : Nat) (l : List Pt) (w : World) (hs : Sl w 3 A l.length c (vp l)) :
    Calls Try.prog 25 #[.agg #[.slice A l.length c]] w fun e w' => e = .returned (.int .i64 (fieldChk l)) ∧ ∃ x, w' = ext w x := by
  by_cases hm : 64 < l.length
  · have E1 := Lib.hid (fieldChk_many hm)
    go_enter Try.func25, Try.ntmps25
    go_wp2
    (go_ret; exact ⟨ret_int (by exact E1.out.symm), ext_of (by (try simp only [ext_ext]); repeat (first | exact Bel.refl _ | assumption | refine bel_and ?_ _ | refine bel_drews ?_ _ | refine Bel.ext ?_ _ | refine Bel.alloc ?_ _ | refine Bel.drewN ?_ _))⟩)
  · have E1 := Lib.hid (fun p (hp : p ∈ l) hc => fieldChk_bad (l := l) (by omega) hp hc)
    have E2 := Lib.hid (fieldChk_order (l := l) (by omega))
    have E3 := Lib.hid (fieldChk_ok (l := l) (by omega))
    go_enter Try.func25, Try.ntmps25
    go_wp2
    go_loopw [15] (fun i wr => ∃ (k : Nat), k ≤ l.length ∧ i = .int .i64 k ∧ (∀ p ∈ l.take k, p.chk = 0) ∧ ∃ y, wr = ext (w.alloc (.cells #[.slice A l.length c] 24)) y) (fun i _ => l.length - (intOf i).toNat)
    case atStart => exact ⟨0, Nat.zero_le _, rfl, by simp, ext_of (Bel.refl _)⟩
    case round =>
      obtain ⟨k, hk, rfl, hall, y, rfl⟩ := hrel
      have HA := Lib.hid hall; clear hall
      by_cases hlt : k < l.length
      · obtain ⟨p, hp⟩ : ∃ p, l[k]? = some p := ⟨_, List.getElem?_eq_getElem hlt⟩
        obtain ⟨b, o, rfl, hb⟩ := hs.at_ (by omega)
        obtain ⟨r0, r1, r2⟩ := pt_at hs hp
        have HP := Lib.hid hp; clear hp
        rcases pt_cases p with h | h
        · have e1 := Lib.hid (pchk_lit p 0 h)
          have HC := Lib.hid h; clear h
          go_wp2_with ((go_at_call 67; refine (e1.out _).mono ?_; rintro e _ ⟨rfl, nx, rfl⟩))
          go_roundw
          case rel =>
            refine ⟨k + 1, by omega, by go_num, ?_, ext_of (by (try simp only [ext_ext]); repeat (first | exact Bel.refl _ | assumption | refine bel_and ?_ _ | refine bel_drews ?_ _ | refine Bel.ext ?_ _ | refine Bel.alloc ?_ _ | refine Bel.drewN ?_ _))⟩
            intro q hq
            rw [List.take_add_one, HP.out] at hq
            rcases List.mem_append.1 hq with hq | hq
            · exact HA.out q hq
            · simp at hq; subst hq; exact HC.out
          case measure => (first | (simp [intOf]; done) | (simp [intOf]; omega))
        · have e1 := Lib.hid (pchk_lit p 8 h)
          have HC := Lib.hid (E1.out p (List.mem_of_getElem? HP.out) (by rw [h]; decide)); clear h
          go_wp2_with ((go_at_call 67; refine (e1.out _).mono ?_; rintro e _ ⟨rfl, nx, rfl⟩))
          (go_ret; exact ⟨ret_int (by exact HC.out.symm), ext_of (by (try simp only [ext_ext]); repeat (first | exact Bel.refl _ | assumption | refine bel_and ?_ _ | refine bel_drews ?_ _ | refine Bel.ext ?_ _ | refine Bel.alloc ?_ _ | refine Bel.drewN ?_ _))⟩)
      · obtain rfl : k = l.length := by omega
        have hc0 := HA.out
        rw [List.take_length] at hc0
        have HC := Lib.hid hc0; clear hc0
        go_wp2
        go_loopw [28] (fun i wr => ∃ (k : Nat), k ≤ l.length ∧ i = .int .i64 k ∧ (∀ (i : Nat) (p q : Pt), i + 1 < k → l[i]? = some p → l[i + 1]? = some q → p.id < q.id) ∧ ∃ y, wr = ext (w.alloc (.cells #[.slice A l.length c] 24)) y) (fun i _ => l.length - (intOf i).toNat)
        case atStart => exact ⟨0, Nat.zero_le _, rfl, (by intro i p q h; omega), y, rfl⟩
        case round =>
          clear hk hlt HA
          obtain ⟨k, hk, rfl, hall, y2, rfl⟩ := hrel
          have HA := Lib.hid hall; clear hall
          by_cases hlt : k < l.length
          · obtain ⟨p, hp⟩ : ∃ p, l[k]? = some p := ⟨_, List.getElem?_eq_getElem hlt⟩
            obtain ⟨b, o, rfl, hb⟩ := hs.at_ (by omega)
            obtain ⟨r0, r1, r2⟩ := pt_at hs hp
            have HP := Lib.hid hp; clear hp
            by_cases hk0 : 0 < k
            · obtain ⟨m, rfl⟩ : ∃ m, k = m + 1 := ⟨k - 1, by omega⟩
              have hmlt : m < l.length := by omega
              obtain ⟨q, hq⟩ : ∃ q, l[m]? = some q := ⟨_, List.getElem?_eq_getElem (by omega)⟩
              obtain ⟨q0, q1, q2⟩ := pt_at hs hq
              have HQ := Lib.hid hq; clear hq
              have hi0 : (0 : Int) ≤ (m : Int) := by omega
              have hi1 : (m : Int) < (l.length : Int) := by omega
              by_cases hid : q.id < p.id
              · have hd : ¬ p.id ≤ q.id := by omega
                go_wp2
                ((first | refine RegC.wp_region_ext1 (by kernel_rfl) (by kernel_rfl) ?_ | refine RegC.wp_region_ext0 (by kernel_rfl) (by kernel_rfl) ?_); (repeat (any_goals (first | go_big_quiet_step (fail) | (refine RegC.wpQuiet_split rfl rfl (fun hb => ?_) (fun hb => ?_) <;> simp only [hb])))); all_goals (refine wpQuiet_nil ?_; rintro _ ⟨nq, rfl⟩))
                go_wp2
                go_roundw
                case rel =>
                  refine ⟨m + 2, by omega, by go_num, ?_, ext_of (by (try simp only [ext_ext]); repeat (first | exact Bel.refl _ | assumption | refine bel_and ?_ _ | refine bel_drews ?_ _ | refine Bel.ext ?_ _ | refine Bel.alloc ?_ _ | refine Bel.drewN ?_ _))⟩
                  intro i p' q' hi hp' hq'
                  rcases Nat.lt_or_ge (i + 1) (m + 1) with h | h
                  · exact HA.out i p' q' h hp' hq'
                  · obtain rfl : i = m := by omega
                    rw [HQ.out] at hp'
                    rw [HP.out] at hq'
                    obtain rfl := Option.some.inj hp'
                    obtain rfl := Option.some.inj hq'
                    exact hid
                case measure => (first | (simp [intOf]; done) | (simp [intOf]; omega))
              · have hd : p.id ≤ q.id := by omega
                have hbad : incB l = false := by
                  rw [← Bool.not_eq_true, incB_iff]; intro h; exact hid (h m q p HQ.out HP.out)
                have HB := Lib.hid (E2.out HC.out hbad); clear hbad
                go_wp2
                ((first | refine RegC.wp_region_ext1 (by kernel_rfl) (by kernel_rfl) ?_ | refine RegC.wp_region_ext0 (by kernel_rfl) (by kernel_rfl) ?_); (repeat (any_goals (first | go_big_quiet_step (fail) | (refine RegC.wpQuiet_split rfl rfl (fun hb => ?_) (fun hb => ?_) <;> simp only [hb])))); all_goals (refine wpQuiet_nil ?_; rintro _ ⟨nq, rfl⟩))
                go_wp2
                (go_ret; exact ⟨ret_int (by exact HB.out.symm), ext_of (by (try simp only [ext_ext]); repeat (first | exact Bel.refl _ | assumption | refine bel_and ?_ _ | refine bel_drews ?_ _ | refine Bel.ext ?_ _ | refine Bel.alloc ?_ _ | refine Bel.drewN ?_ _))⟩)
            · obtain rfl : k = 0 := by omega
              simp only [Nat.zero_mul, Nat.add_zero] at r0 r1 r2
              go_wp2
              ((first | refine RegC.wp_region_ext1 (by kernel_rfl) (by kernel_rfl) ?_ | refine RegC.wp_region_ext0 (by kernel_rfl) (by kernel_rfl) ?_); (repeat (any_goals (first | go_big_quiet_step (fail) | (refine RegC.wpQuiet_split rfl rfl (fun hb => ?_) (fun hb => ?_) <;> simp only [hb])))); all_goals (refine wpQuiet_nil ?_; rintro _ ⟨nq, rfl⟩))
              go_wp2
              go_roundw
              case rel => exact ⟨1, by omega, by go_num, (by intro i p q h; omega), ext_of (by (try simp only [ext_ext]); repeat (first | exact Bel.refl _ | assumption | refine bel_and ?_ _ | refine bel_drews ?_ _ | refine Bel.ext ?_ _ | refine Bel.alloc ?_ _ | refine Bel.drewN ?_ _))⟩
              case measure => (first | (simp [intOf]; done) | (simp [intOf]; omega))
          · obtain rfl : k = l.length := by omega
            have hinc : incB l = true := (incB_iff l).2 fun i p q hp hq => HA.out i p q (by have := (List.getElem?_eq_some_iff.1 hq).1; omega) hp hq
            have HB := Lib.hid (E3.out HC.out hinc); clear hinc
            go_wp2
            (go_ret; exact ⟨ret_int (by exact HB.out.symm), ext_of (by (try simp only [ext_ext]); repeat (first | exact Bel.refl _ | assumption | refine bel_and ?_ _ | refine bel_drews ?_ _ | refine Bel.ext ?_ _ | refine Bel.alloc ?_ _ | refine Bel.drewN ?_ _))⟩)
end Go.Proofs.Ytkcpnclgcmnlcaa

namespace Go.Proofs.Ytkcpnclgcmnlcaa
open Go.RowKit Go.Pel
theorem slt_pts : SlT Try.prog 22 26 (.agg #[.int .i64 0, .int .i64 0, .int .i64 0]) 3 24 := ⟨by kernel_rfl, by kernel_rfl, by kernel_rfl, by decide, by decide⟩
/-- two points are the same -/
def eqP (i a b i' a' b' : Int) : Bool := decide (i = i' ∧ a = a' ∧ b = b')
theorem eqP_yes (p : Pt) : eqP p.id p.a p.b p.id p.a p.b = true := by simp [eqP]
theorem eqP_no {p q : Pt} (h : ¬ p = q) : eqP p.id p.a p.b q.id q.a q.b = false := by
  unfold eqP; rw [decide_eq_false_iff_not]; rintro ⟨h1, h2, h3⟩; exact h (by cases p; cases q; simp at *; exact ⟨h1, h2, h3⟩)
theorem equal_pt (i a b i' a' b' : Int) (w : World) : (Op.equalIn 10000 26 (.agg #[.int .i64 i, .int .i64 a, .int .i64 b]) (.agg #[.int .i64 i', .int .i64 a', .int .i64 b'])).run Try.prog w = .ok (eqP i a b i' a' b') w := by
  simp [go_sem]
  unfold eqP
  by_cases h1 : i = i' <;> by_cases h2 : a = a' <;> by_cases h3 : b = b' <;> simp [h1, h2, h3]
attribute [local go_sem ↓] equal_pt
set_option maxRecDepth 10000 in
set_option maxHeartbeats 2000000 in
theorem ref03Check_any (A : Option Addr) (c : Nat) (l : List Pt) (w : World) (hs : Sl w 3 A l.length c (vp l)) :
    Calls Try.prog 26 #[.agg #[.slice A l.length c]] w fun e w' => e = .returned (.int .i64 (fieldChk l)) ∧ ∃ x, w' = ext w x := by
  by_cases hm : 64 < l.length
  · have E1 := Lib.hid (fieldChk_many hm)
    go_enter Try.func26, Try.ntmps26
    go_wp2
    (go_ret; exact ⟨ret_int (by exact E1.out.symm), ext_of (by (try simp only [ext_ext]); repeat (first | exact Bel.refl _ | assumption | refine bel_and ?_ _ | refine bel_drews ?_ _ | refine Bel.ext ?_ _ | refine Bel.alloc ?_ _ | refine Bel.drewN ?_ _))⟩)
  · have E1 := Lib.hid (fun p (hp : p ∈ l) hc => fieldChk_bad (l := l) (by omega) hp hc)
    have E2 := Lib.hid (fieldChk_order (l := l) (by omega))
    have E3 := Lib.hid (fieldChk_ok (l := l) (by omega))
    go_enter Try.func26, Try.ntmps26
    go_wp2
    go_loopw [3] (fun i wr => ∃ (k : Nat), k ≤ l.length ∧ i = .int .i64 k ∧ (∀ p ∈ l.take k, p.chk = 0) ∧ ∃ y, wr = ext (w.alloc (.cells #[.slice A l.length c] 24)) y) (fun i _ => l.length - (intOf i).toNat)
    case atStart => exact ⟨0, Nat.zero_le _, rfl, by simp, ext_of (Bel.refl _)⟩
    case round =>
      obtain ⟨k, hk, rfl, hall, y, rfl⟩ := hrel
      have HA := Lib.hid hall; clear hall
      by_cases hlt : k < l.length
      · obtain ⟨p, hp⟩ : ∃ p, l[k]? = some p := ⟨_, List.getElem?_eq_getElem hlt⟩
        obtain ⟨b, o, rfl, hb⟩ := hs.at_ (by omega)
        obtain ⟨r0, r1, r2⟩ := pt_at hs hp
        have HP := Lib.hid hp; clear hp
        rcases pt_cases p with h | h
        · have e1 := Lib.hid (pchk2_lit p 0 h)
          have HC := Lib.hid h; clear h
          go_wp2_with ((go_at_call 61; refine (e1.out _).mono ?_; rintro e _ ⟨rfl, nx, rfl⟩))
          go_roundw
          case rel =>
            refine ⟨k + 1, by omega, by go_num, ?_, ext_of (by (try simp only [ext_ext]); repeat (first | exact Bel.refl _ | assumption | refine bel_and ?_ _ | refine bel_drews ?_ _ | refine Bel.ext ?_ _ | refine Bel.alloc ?_ _ | refine Bel.drewN ?_ _))⟩
            intro q hq
            rw [List.take_add_one, HP.out] at hq
            rcases List.mem_append.1 hq with hq | hq
            · exact HA.out q hq
            · simp at hq; subst hq; exact HC.out
          case measure => (first | (simp [intOf]; done) | (simp [intOf]; omega))
        · have e1 := Lib.hid (pchk2_lit p 8 h)
          have HC := Lib.hid (E1.out p (List.mem_of_getElem? HP.out) (by rw [h]; decide)); clear h
          go_wp2_with ((go_at_call 61; refine (e1.out _).mono ?_; rintro e _ ⟨rfl, nx, rfl⟩))
          (go_ret; exact ⟨ret_int (by exact HC.out.symm), ext_of (by (try simp only [ext_ext]); repeat (first | exact Bel.refl _ | assumption | refine bel_and ?_ _ | refine bel_drews ?_ _ | refine Bel.ext ?_ _ | refine Bel.alloc ?_ _ | refine Bel.drewN ?_ _))⟩)
      · obtain rfl : k = l.length := by omega
        have hc0 := HA.out
        rw [List.take_length] at hc0
        have HC := Lib.hid hc0; clear hc0
        go_wp2
        go_loopw [4] (fun i wr => ∃ (k : Nat), k ≤ l.length + 1 ∧ i = .int .i64 (k + 1) ∧ (∀ (i : Nat) (p q : Pt), i + 1 < k + 1 → l[i]? = some p → l[i + 1]? = some q → p.id < q.id) ∧ ∃ y, wr = ext (w.alloc (.cells #[.slice A l.length c] 24)) y) (fun i _ => l.length + 2 - (intOf i).toNat)
        case atStart => exact ⟨0, by omega, rfl, (by intro i p q h; omega), y, rfl⟩
        case round =>
          clear hk hlt HA
          obtain ⟨m, hk, rfl, hall, y2, rfl⟩ := hrel
          have HA := Lib.hid hall; clear hall
          by_cases hlt : m + 1 < l.length
          · obtain ⟨p, hp⟩ : ∃ p, l[m + 1]? = some p := ⟨_, List.getElem?_eq_getElem hlt⟩
            obtain ⟨b, o, rfl, hb⟩ := hs.at_ (by omega)
            obtain ⟨r0, r1, r2⟩ := pt_at hs hp
            have HP := Lib.hid hp; clear hp
            obtain ⟨q, hq⟩ : ∃ q, l[m]? = some q := ⟨_, List.getElem?_eq_getElem (by omega)⟩
            obtain ⟨q0, q1, q2⟩ := pt_at hs hq
            have HQ := Lib.hid hq; clear hq
            have hi0 : (0 : Int) ≤ (m : Int) := by omega
            have hi1 : (m : Int) < (l.length : Int) := by omega
            have hi2 : (m : Int) + 1 < (l.length : Int) := by omega
            by_cases hid : q.id < p.id
            · have hd : ¬ p.id ≤ q.id := by omega
              go_wp2
              ((first | refine RegC.wp_region_ext1 (by kernel_rfl) (by kernel_rfl) ?_ | refine RegC.wp_region_ext0 (by kernel_rfl) (by kernel_rfl) ?_); (repeat (any_goals (first | go_big_quiet_step (fail) | (refine RegC.wpQuiet_split rfl rfl (fun hb => ?_) (fun hb => ?_) <;> simp only [hb])))); all_goals (refine wpQuiet_nil ?_; rintro _ ⟨nq, rfl⟩))
              go_wp2
              go_roundw
              case rel =>
                refine ⟨m + 1, by omega, by go_num, ?_, ext_of (by (try simp only [ext_ext]); repeat (first | exact Bel.refl _ | assumption | refine bel_and ?_ _ | refine bel_drews ?_ _ | refine Bel.ext ?_ _ | refine Bel.alloc ?_ _ | refine Bel.drewN ?_ _))⟩
                intro i p' q' hi hp' hq'
                rcases Nat.lt_or_ge (i + 1) (m + 1) with h | h
                · exact HA.out i p' q' h hp' hq'
                · obtain rfl : i = m := by omega
                  rw [HQ.out] at hp'
                  rw [HP.out] at hq'
                  obtain rfl := Option.some.inj hp'
                  obtain rfl := Option.some.inj hq'
                  exact hid
              case measure => (first | (simp [intOf]; done) | (simp [intOf]; omega))
            · have hd : p.id ≤ q.id := by omega
              have hbad : incB l = false := by
                rw [← Bool.not_eq_true, incB_iff]; intro h; exact hid (h m q p HQ.out HP.out)
              have HB := Lib.hid (E2.out HC.out hbad); clear hbad
              go_wp2
              ((first | refine RegC.wp_region_ext1 (by kernel_rfl) (by kernel_rfl) ?_ | refine RegC.wp_region_ext0 (by kernel_rfl) (by kernel_rfl) ?_); (repeat (any_goals (first | go_big_quiet_step (fail) | (refine RegC.wpQuiet_split rfl rfl (fun hb => ?_) (fun hb => ?_) <;> simp only [hb])))); all_goals (refine wpQuiet_nil ?_; rintro _ ⟨nq, rfl⟩))
              go_wp2
              (go_ret; exact ⟨ret_int (by exact HB.out.symm), ext_of (by (try simp only [ext_ext]); repeat (first | exact Bel.refl _ | assumption | refine bel_and ?_ _ | refine bel_drews ?_ _ | refine Bel.ext ?_ _ | refine Bel.alloc ?_ _ | refine Bel.drewN ?_ _))⟩)
          · have hlt2 : ¬ (m : Int) + 1 < (l.length : Int) := by omega
            have hinc : incB l = true := (incB_iff l).2 fun i p q hp hq => HA.out i p q (by have := (List.getElem?_eq_some_iff.1 hq).1; omega) hp hq
            have HB := Lib.hid (E3.out HC.out hinc); clear hinc
            go_wp2
            (go_ret; exact ⟨ret_int (by exact HB.out.symm), ext_of (by (try simp only [ext_ext]); repeat (first | exact Bel.refl _ | assumption | refine bel_and ?_ _ | refine bel_drews ?_ _ | refine Bel.ext ?_ _ | refine Bel.alloc ?_ _ | refine Bel.drewN ?_ _))⟩)
set_option maxRecDepth 10000 in
set_option maxHeartbeats 2000000 in
theorem at03_any (A : Option Addr) (c : Nat) (l : List Pt) (id : Int) (w : World) (hs : Sl w 3 A l.length c (vp l)) (hl : l.length ≤ 1000000) :
    Calls Try.prog 66 #[.agg #[.slice A l.length c], .int .i64 id] w fun e w' => e = .returned (.int .i64 (atI l id)) ∧ ∃ x, w' = ext w x := by
  go_enter Try.func66, Try.ntmps66
  go_wp2
  go_loopw [5] (fun i wr => ∃ (k : Nat), k ≤ l.length ∧ i = .int .i64 k ∧ (∀ (i : Nat) (p : Pt), i < k → l[i]? = some p → p.id ≠ id) ∧ ∃ y, wr = ext (w.alloc (.cells #[.slice A l.length c] 24)) y) (fun i _ => l.length - (intOf i).toNat)
  case atStart => exact ⟨0, Nat.zero_le _, rfl, (by intro i p h; omega), ext_of (Bel.refl _)⟩
  case round =>
    obtain ⟨k, hk, rfl, hall, y, rfl⟩ := hrel
    have HA := Lib.hid hall; clear hall
    by_cases hlt : k < l.length
    · obtain ⟨p, hp⟩ : ∃ p, l[k]? = some p := ⟨_, List.getElem?_eq_getElem hlt⟩
      obtain ⟨b, o, rfl, hb⟩ := hs.at_ (by omega)
      obtain ⟨r0, r1, r2⟩ := pt_at hs hp
      have HP := Lib.hid hp; clear hp
      by_cases hid : p.id = id
      · have hd : (p.id == id) = true := by simpa using hid
        have HB := Lib.hid (atI_of HA.out HP.out hid)
        clear hid
        go_wp2
        (go_ret; exact ⟨ret_int (by exact HB.out.symm), ext_of (by (try simp only [ext_ext]); repeat (first | exact Bel.refl _ | assumption | refine bel_and ?_ _ | refine bel_drews ?_ _ | refine Bel.ext ?_ _ | refine Bel.alloc ?_ _ | refine Bel.drewN ?_ _))⟩)
      · have hd : (p.id == id) = false := by simpa using hid
        have HD := Lib.hid hid; clear hid
        go_wp2
        go_roundw
        case rel =>
          refine ⟨k + 1, by omega, by go_num, ?_, ext_of (by (try simp only [ext_ext]); repeat (first | exact Bel.refl _ | assumption | refine bel_and ?_ _ | refine bel_drews ?_ _ | refine Bel.ext ?_ _ | refine Bel.alloc ?_ _ | refine Bel.drewN ?_ _))⟩
          intro i q hi hq
          rcases Nat.lt_or_ge i k with h | h
          · exact HA.out i q h hq
          · obtain rfl : i = k := by omega
            rw [HP.out] at hq
            obtain rfl := Option.some.inj hq
            exact HD.out
        case measure => (first | (simp [intOf]; done) | (simp [intOf]; omega))
    · obtain rfl : k = l.length := by omega
      have HB := Lib.hid (atI_no (hasB_no (id := id) fun i p hp => HA.out i p (List.getElem?_eq_some_iff.1 hp).1 hp))
      go_wp2
      (go_ret; exact ⟨ret_int (by exact HB.out.symm), ext_of (by (try simp only [ext_ext]); repeat (first | exact Bel.refl _ | assumption | refine bel_and ?_ _ | refine bel_drews ?_ _ | refine Bel.ext ?_ _ | refine Bel.alloc ?_ _ | refine Bel.drewN ?_ _))⟩)
/-- at most 16, or from 64 to 70 -/
def great (n : Nat) : Bool := (decide (16 < n) && decide (n < 64)) || decide (70 < n)
set_option maxHeartbeats 400000 in
theorem great_any (A : Option Addr) (n c : Nat) (w : World) : Calls Try.prog 15 #[.agg #[.slice A n c]] w fun e w' => e = .returned (.bool (great n)) ∧ ∃ x, w' = ext w x := by
  by_cases h1 : 16 < n
  · by_cases h2 : n < 64
    · have H := Lib.hid (show great n = true by unfold great; simp [h1, h2])
      go_enter Try.func15, Try.ntmps15
      go_wp2
      (go_ret; exact ⟨ret_bool (by first | exact H.out.symm | (rw [H.out]; simp; omega)), ext_of (by (try simp only [ext_ext]); repeat (first | exact Bel.refl _ | assumption | refine bel_and ?_ _ | refine bel_drews ?_ _ | refine Bel.ext ?_ _ | refine Bel.alloc ?_ _ | refine Bel.drewN ?_ _))⟩)
    · by_cases h3 : 70 < n
      · have H := Lib.hid (show great n = true by unfold great; simp [h3])
        go_enter Try.func15, Try.ntmps15
        go_wp2
        (go_ret; exact ⟨ret_bool (by first | exact H.out.symm | (rw [H.out]; simp; omega)), ext_of (by (try simp only [ext_ext]); repeat (first | exact Bel.refl _ | assumption | refine bel_and ?_ _ | refine bel_drews ?_ _ | refine Bel.ext ?_ _ | refine Bel.alloc ?_ _ | refine Bel.drewN ?_ _))⟩)
      · have H := Lib.hid (show great n = false by unfold great; simp [h2, h3])
        go_enter Try.func15, Try.ntmps15
        go_wp2
        (go_ret; exact ⟨ret_bool (by first | exact H.out.symm | (rw [H.out]; simp; omega)), ext_of (by (try simp only [ext_ext]); repeat (first | exact Bel.refl _ | assumption | refine bel_and ?_ _ | refine bel_drews ?_ _ | refine Bel.ext ?_ _ | refine Bel.alloc ?_ _ | refine Bel.drewN ?_ _))⟩)
  · have h3 : ¬ 70 < n := by omega
    have H := Lib.hid (show great n = false by unfold great; simp [h1, h3])
    go_enter Try.func15, Try.ntmps15
    go_wp2
    (go_ret; exact ⟨ret_bool (by first | exact H.out.symm | (rw [H.out]; simp; omega)), ext_of (by (try simp only [ext_ext]); repeat (first | exact Bel.refl _ | assumption | refine bel_and ?_ _ | refine bel_drews ?_ _ | refine Bel.ext ?_ _ | refine Bel.alloc ?_ _ | refine Bel.drewN ?_ _))⟩)
set_option maxHeartbeats 400000 in
theorem twin_any (A : Option Addr) (c : Nat) (l : List Pt) (w : World) (hs : Sl w 3 A l.length c (vp l)) (hn : A = none → c = 0) (hl : l.length ≤ 1000000) :
    Calls Try.prog 16 #[.agg #[.slice A l.length c]] w fun e w' => ∃ A' c', e = .returned (.agg #[.slice A' l.length c']) ∧ ∃ x, w' = ext w x ∧ Own (ext w x) w.heap.size 26 3 A' l.length c' (vp l) := by
  go_enter Try.func16, Try.ntmps16
  go_wp2_with ((at_builtin; (try refine wpList_unguard rfl (by first | rfl | simp [yielded]) ?_); refine append_new slt_pts (by (try simp only [ext_ext]); repeat (first | exact Bel.refl _ | assumption | refine bel_and ?_ _ | refine bel_drews ?_ _ | refine Bel.ext ?_ _ | refine Bel.alloc ?_ _ | refine Bel.drewN ?_ _)) (hs) (by (try simp only [ext_ext]); repeat (first | exact Bel.refl _ | assumption | refine bel_and ?_ _ | refine bel_drews ?_ _ | refine Bel.ext ?_ _ | refine Bel.alloc ?_ _ | refine Bel.drewN ?_ _)) (vp_one _) (hn) (by omega) rfl _ _ rfl rfl rfl (by simp [go_sem]) ?_; rintro A1 c1 y1 hown1))
  refine bodyPost_ret (v := .agg #[.slice A1 l.length c1]) (by simp [results, Try.results16, go_sem]) rfl ?_
  exact ⟨_, _, rfl, own_ret (by (try simp only [ext_ext]); repeat (first | exact Bel.refl _ | assumption | refine bel_and ?_ _ | refine bel_drews ?_ _ | refine Bel.ext ?_ _ | refine Bel.alloc ?_ _ | refine Bel.drewN ?_ _)) (own_swap (by simp [go_sem]) hown1 (by simp [go_sem])) (Bel.refl _) (by simp [go_sem])⟩
set_option maxRecDepth 10000 in
set_option maxHeartbeats 2000000 in
theorem same03_any (A B : Option Addr) (c d : Nat) (l m : List Pt) (w : World) (hs : Sl w 3 A l.length c (vp l)) (ht : Sl w 3 B m.length d (vp m)) (hl : l.length ≤ 1000000) (hm : m.length ≤ 1000000) :
    Calls Try.prog 27 #[.agg #[.slice A l.length c], .agg #[.slice B m.length d]] w fun e w' => e = .returned (.bool (decide (l = m))) ∧ ∃ x, w' = ext w x := by
  by_cases hn : l.length = m.length
  · have z0 : ((l.length : Int) == (m.length : Int)) = true := by rw [beq_iff_eq]; omega
    have HN := Lib.hid hn
    have hle1 : l.length ≤ m.length := by omega
    have hle2 : m.length ≤ l.length := by omega
    clear hn
    go_enter Try.func27, Try.ntmps27
    go_wp2
    go_loopw [5] (fun i wr => ∃ (k : Nat), k ≤ l.length ∧ i = .int .i64 k ∧ l.take k = m.take k ∧ ∃ y, wr = ext ((w.alloc (.cells #[.slice A l.length c] 24)).alloc (.cells #[.slice B m.length d] 24)) y) (fun i _ => l.length - (intOf i).toNat)
    case atStart => exact ⟨0, Nat.zero_le _, rfl, rfl, ext_of (Bel.refl _)⟩
    case round =>
      obtain ⟨k, hk, rfl, hgo, y, rfl⟩ := hrel
      have HG := Lib.hid hgo; clear hgo
      by_cases hlt : k < l.length
      · obtain ⟨x, hx⟩ : ∃ x, l[k]? = some x := ⟨_, List.getElem?_eq_getElem hlt⟩
        obtain ⟨x', hx'⟩ : ∃ x, m[k]? = some x := ⟨_, List.getElem?_eq_getElem (by omega)⟩
        obtain ⟨b, o, rfl, hb⟩ := hs.at_ (by omega)
        obtain ⟨b2, o2, rfl, hb2⟩ := ht.at_ (by omega)
        obtain ⟨r0, r1, r2⟩ := pt_at hs hx
        obtain ⟨q0, q1, q2⟩ := pt_at ht hx'
        have HX := Lib.hid hx
        have HX' := Lib.hid hx'
        have hlt2 : k < m.length := by omega
        clear hx hx'
        have hE : l.take (k + 1) = l.take k ++ [x] := by rw [List.take_add_one, HX.out]; rfl
        have hE' : m.take (k + 1) = m.take k ++ [x'] := by rw [List.take_add_one, HX'.out]; rfl
        have HE := Lib.hid hE
        have HE' := Lib.hid hE'
        clear hE hE'
        by_cases hxy : x = x'
        · subst hxy
          have heq := eqP_yes x
          go_wp2
          ((first | refine RegC.wp_region_ext1 (by kernel_rfl) (by kernel_rfl) ?_ | refine RegC.wp_region_ext0 (by kernel_rfl) (by kernel_rfl) ?_); (repeat (any_goals (first | go_big_quiet_step (fail) | (refine RegC.wpQuiet_split rfl rfl (fun hb => ?_) (fun hb => ?_) <;> simp only [hb])))); all_goals (refine wpQuiet_nil ?_; rintro _ ⟨nq, rfl⟩))
          go_wp2
          go_roundw
          case rel =>
            refine ⟨k + 1, by omega, by go_num, ?_, ext_of (by (try simp only [ext_ext]); repeat (first | exact Bel.refl _ | assumption | refine bel_and ?_ _ | refine bel_drews ?_ _ | refine Bel.ext ?_ _ | refine Bel.alloc ?_ _ | refine Bel.drewN ?_ _))⟩
            rw [HE.out, HE'.out, HG.out]
          case measure => (first | (simp [intOf]; done) | (simp [intOf]; omega))
        · have heq := eqP_no hxy
          have z1 : decide (l = m) = false := by rw [decide_eq_false_iff_not]; intro h; apply hxy; have h1 := HX.out; rw [h, HX'.out] at h1; exact (Option.some.inj h1).symm
          have Z1 := Lib.hid z1
          clear z1 hxy
          go_wp2
          ((first | refine RegC.wp_region_ext1 (by kernel_rfl) (by kernel_rfl) ?_ | refine RegC.wp_region_ext0 (by kernel_rfl) (by kernel_rfl) ?_); (repeat (any_goals (first | go_big_quiet_step (fail) | (refine RegC.wpQuiet_split rfl rfl (fun hb => ?_) (fun hb => ?_) <;> simp only [hb])))); all_goals (refine wpQuiet_nil ?_; rintro _ ⟨nq, rfl⟩))
          go_wp2
          (go_ret; exact ⟨ret_bool (by exact Z1.out.symm), ext_of (by (try simp only [ext_ext]); repeat (first | exact Bel.refl _ | assumption | refine bel_and ?_ _ | refine bel_drews ?_ _ | refine Bel.ext ?_ _ | refine Bel.alloc ?_ _ | refine Bel.drewN ?_ _))⟩)
      · go_wp2
        have z1 : decide (l = m) = true := by
          rw [decide_eq_true_eq]
          have h := HG.out
          obtain rfl : k = l.length := by omega
          rw [List.take_length] at h
          rw [h, HN.out, List.take_length]
        have Z1 := Lib.hid z1
        clear z1
        (go_ret; exact ⟨ret_bool (by exact Z1.out.symm), ext_of (by (try simp only [ext_ext]); repeat (first | exact Bel.refl _ | assumption | refine bel_and ?_ _ | refine bel_drews ?_ _ | refine Bel.ext ?_ _ | refine Bel.alloc ?_ _ | refine Bel.drewN ?_ _))⟩)
  · go_enter Try.func27, Try.ntmps27
    have z0 : ((l.length : Int) == (m.length : Int)) = false := by rw [beq_eq_false_iff_ne]; omega
    have z1 : decide (l = m) = false := by rw [decide_eq_false_iff_not]; intro h; exact hn (by rw [h])
    have Z1 := Lib.hid z1
    clear z1
    go_wp2
    (go_ret; exact ⟨ret_bool (by exact Z1.out.symm), ext_of (by (try simp only [ext_ext]); repeat (first | exact Bel.refl _ | assumption | refine bel_and ?_ _ | refine bel_drews ?_ _ | refine Bel.ext ?_ _ | refine Bel.alloc ?_ _ | refine Bel.drewN ?_ _))⟩)
end Go.Proofs.Ytkcpnclgcmnlcaa

namespace Go.Proofs.Ytkcpnclgcmnlcaa
open Go.RowKit Go.Pel
def cmpI (a b : Int) : Int := if a < b then -1 else if b < a then 1 else 0
theorem cmpI_lt {a b : Int} (h : a < b) : cmpI a b = -1 := if_pos h
theorem cmpI_gt {a b : Int} (h : b < a) : cmpI a b = 1 := by unfold cmpI; rw [if_neg (by omega), if_pos h]
theorem cmpI_eq {a b : Int} (h : a = b) : cmpI a b = 0 := by unfold cmpI; rw [if_neg (by omega), if_neg (by omega)]
set_option maxHeartbeats 400000 in
theorem cmpInt_any (a b : Int) (w : World) : Calls Try.prog 99 #[.int .i64 a, .int .i64 b] w fun e w' => e = .returned (.int .i64 (cmpI a b)) ∧ ∃ x, w' = ext w x := by
  rcases (by omega : a < b ∨ b < a ∨ a = b) with h | h | h
  · have H := Lib.hid (cmpI_lt h)
    have h2 : ¬ b < a := by omega
    go_enter Try.func99, Try.ntmps99
    go_wp2
    (go_ret; exact ⟨ret_int (by exact H.out.symm), ext_of (by (try simp only [ext_ext]); repeat (first | exact Bel.refl _ | assumption | refine bel_and ?_ _ | refine bel_drews ?_ _ | refine Bel.ext ?_ _ | refine Bel.alloc ?_ _ | refine Bel.drewN ?_ _))⟩)
  · have H := Lib.hid (cmpI_gt h)
    have h2 : ¬ a < b := by omega
    go_enter Try.func99, Try.ntmps99
    go_wp2
    (go_ret; exact ⟨ret_int (by exact H.out.symm), ext_of (by (try simp only [ext_ext]); repeat (first | exact Bel.refl _ | assumption | refine bel_and ?_ _ | refine bel_drews ?_ _ | refine Bel.ext ?_ _ | refine Bel.alloc ?_ _ | refine Bel.drewN ?_ _))⟩)
  · have H := Lib.hid (cmpI_eq h)
    have h2 : ¬ a < b := by omega
    have h3 : ¬ b < a := by omega
    clear h
    go_enter Try.func99, Try.ntmps99
    go_wp2
    (go_ret; exact ⟨ret_int (by exact H.out.symm), ext_of (by (try simp only [ext_ext]); repeat (first | exact Bel.refl _ | assumption | refine bel_and ?_ _ | refine bel_drews ?_ _ | refine Bel.ext ?_ _ | refine Bel.alloc ?_ _ | refine Bel.drewN ?_ _))⟩)
set_option maxHeartbeats 400000 in
theorem find1_any (p : Pt) (id : Int) (w : World) : Calls Try.prog 98 #[.agg #[.int .i64 p.id, .int .i64 p.a, .int .i64 p.b], .int .i64 id] w fun e w' => e = .returned (.int .i64 (cmpI p.id id)) ∧ ∃ x, w' = ext w x := by
  go_enter Try.func98, Try.ntmps98
  go_wp2_with ((go_at_call 99; refine (cmpInt_any _ _ _).mono ?_; rintro e _ ⟨rfl, nx, rfl⟩))
  (go_ret; exact ⟨ret_int (by rfl), ext_of (by (try simp only [ext_ext]); repeat (first | exact Bel.refl _ | assumption | refine bel_and ?_ _ | refine bel_drews ?_ _ | refine Bel.ext ?_ _ | refine Bel.alloc ?_ _ | refine Bel.drewN ?_ _))⟩)
theorem find1_lit (p : Pt) (id v : Int) (h : cmpI p.id id = v) (w : World) : Calls Try.prog 98 #[.agg #[.int .i64 p.id, .int .i64 p.a, .int .i64 p.b], .int .i64 id] w fun e w' => e = .returned (.int .i64 v) ∧ ∃ x, w' = ext w x := h ▸ find1_any p id w
set_option maxRecDepth 10000 in
set_option maxHeartbeats 2000000 in
theorem bsf_any (A : Option Addr) (c : Nat) (l : List Pt) (id : Int) (w : World) (hs : Sl w 3 A l.length c (vp l)) (hl : l.length ≤ 1000000) (hinc : incB l = true) :
    Calls Try.prog 97 #[.slice A l.length c, .int .i64 id, .func (.func 98) #[] #[]] w fun e w' => e = .returned (.tuple #[.int .i64 (lowB l id), .bool (hasB l id)]) ∧ ∃ x, w' = ext w x := by
  have HI := Lib.hid hinc; clear hinc
  go_enter Try.func97, Try.ntmps97
  go_wp2
  go_loopw [9, 10] (fun i j wr => ∃ (a b : Nat), a ≤ b ∧ b ≤ l.length ∧ i = .int .i64 a ∧ j = .int .i64 b ∧ (∀ (k : Nat) (p : Pt), k < a → l[k]? = some p → p.id < id) ∧ (∀ (k : Nat) (p : Pt), b ≤ k → l[k]? = some p → id ≤ p.id) ∧ ∃ y, wr = ext w y) (fun i j _ => (intOf j - intOf i).toNat)
  case atStart => exact ⟨0, l.length, Nat.zero_le _, Nat.le_refl _, rfl, rfl, (by intro k p h; omega), (by intro k p h hp; have := (List.getElem?_eq_some_iff.1 hp).1; omega), ext_of (Bel.refl _)⟩
  case round =>
    obtain ⟨a, b, hab, hbl, rfl, rfl, h1, h2, y, rfl⟩ := hrel
    have H1 := Lib.hid h1
    have H2 := Lib.hid h2
    clear h1 h2
    by_cases hlt : a < b
    · obtain ⟨m, hm1, hm2⟩ : ∃ m : Nat, 2 * m ≤ a + b ∧ a + b ≤ 2 * m + 1 := ⟨(a + b) / 2, by omega, by omega⟩
      have hmd : ((a : Int) + (b : Int)) / 2 = (m : Int) := by omega
      obtain ⟨p, hp⟩ : ∃ p, l[m]? = some p := ⟨_, List.getElem?_eq_getElem (by omega)⟩
      obtain ⟨b0, o, rfl, hb0⟩ := hs.at_ (by omega)
      obtain ⟨r0, r1, r2⟩ := pt_at hs hp
      have HP := Lib.hid hp; clear hp
      have hml : (m : Int) < (l.length : Int) := by omega
      by_cases hpi : p.id < id
      · have e1 := Lib.hid (find1_lit p id (-1) (cmpI_lt hpi))
        go_wp2_with ((go_at_call 98; refine (e1.out _).mono ?_; rintro e _ ⟨rfl, nx, rfl⟩))
        go_roundw
        case rel =>
          refine ⟨m + 1, b, by omega, hbl, by go_num, rfl, ?_, H2.out, ext_of (by (try simp only [ext_ext]); repeat (first | exact Bel.refl _ | assumption | refine bel_and ?_ _ | refine bel_drews ?_ _ | refine Bel.ext ?_ _ | refine Bel.alloc ?_ _ | refine Bel.drewN ?_ _))⟩
          intro k q hk hq
          rcases Nat.lt_or_ge k m with h | h
          · have := inc_lt HI.out h hq HP.out; omega
          · obtain rfl : k = m := by omega
            rw [HP.out] at hq; obtain rfl := Option.some.inj hq; exact hpi
        case measure => (first | (simp [intOf]; done) | (simp [intOf]; omega))
      · have e1 : Hid (∃ v : Int, ¬ v < 0 ∧ cmpI p.id id = v) := Lib.hid (by
          by_cases h : id < p.id
          · exact ⟨1, by omega, cmpI_gt h⟩
          · exact ⟨0, by omega, cmpI_eq (by omega)⟩)
        obtain ⟨v, hv, e2⟩ := e1.out
        have e1 := Lib.hid (find1_lit p id v e2)
        clear e2
        go_wp2_with ((go_at_call 98; refine (e1.out _).mono ?_; rintro e _ ⟨rfl, nx, rfl⟩))
        go_roundw
        case rel =>
          refine ⟨a, m, by omega, by omega, rfl, rfl, H1.out, ?_, ext_of (by (try simp only [ext_ext]); repeat (first | exact Bel.refl _ | assumption | refine bel_and ?_ _ | refine bel_drews ?_ _ | refine Bel.ext ?_ _ | refine Bel.alloc ?_ _ | refine Bel.drewN ?_ _))⟩
          intro k q hk hq
          rcases Nat.lt_or_ge m k with h | h
          · have := inc_lt HI.out h HP.out hq; omega
          · obtain rfl : k = m := by omega
            rw [HP.out] at hq; obtain rfl := Option.some.inj hq; omega
        case measure => (first | (simp [intOf]; done) | (simp [intOf]; omega))
    · obtain rfl : a = b := by omega
      have HL := Lib.hid (lowB_of hbl H1.out (fun p hp => H2.out a p (Nat.le_refl _) hp))
      have HH := Lib.hid (hasB_at HI.out id)
      by_cases hal : a < l.length
      · obtain ⟨p, hp⟩ : ∃ p, l[a]? = some p := ⟨_, List.getElem?_eq_getElem hal⟩
        obtain ⟨b0, o, rfl, hb0⟩ := hs.at_ (by omega)
        obtain ⟨r0, r1, r2⟩ := pt_at hs hp
        have HP := Lib.hid hp; clear hp
        have hge := H2.out a p (Nat.le_refl _) HP.out
        have hal2 : (a : Int) < (l.length : Int) := by omega
        by_cases hpi : p.id = id
        · have e1 := Lib.hid (find1_lit p id 0 (cmpI_eq hpi))
          have HB : Hid (hasB l id = true) := Lib.hid (by rw [HH.out, HL.out, HP.out]; simpa using hpi)
          clear hpi
          go_wp2_with ((go_at_call 98; refine (e1.out _).mono ?_; rintro e _ ⟨rfl, nx, rfl⟩))
          go_ret2
          exact ⟨by rw [HL.out, HB.out]; rfl, ext_of (by (try simp only [ext_ext]); repeat (first | exact Bel.refl _ | assumption | refine bel_and ?_ _ | refine bel_drews ?_ _ | refine Bel.ext ?_ _ | refine Bel.alloc ?_ _ | refine Bel.drewN ?_ _))⟩
        · have e1 := Lib.hid (find1_lit p id 1 (cmpI_gt (by omega)))
          have HB : Hid (hasB l id = false) := Lib.hid (by rw [HH.out, HL.out, HP.out]; simpa using hpi)
          clear hpi
          go_wp2_with ((go_at_call 98; refine (e1.out _).mono ?_; rintro e _ ⟨rfl, nx, rfl⟩))
          go_ret2
          exact ⟨by rw [HL.out, HB.out]; rfl, ext_of (by (try simp only [ext_ext]); repeat (first | exact Bel.refl _ | assumption | refine bel_and ?_ _ | refine bel_drews ?_ _ | refine Bel.ext ?_ _ | refine Bel.alloc ?_ _ | refine Bel.drewN ?_ _))⟩
      · have HB : Hid (hasB l id = false) := Lib.hid (by rw [HH.out, HL.out, List.getElem?_eq_none (by omega)])
        go_wp2
        go_ret2
        exact ⟨by rw [HL.out, HB.out]; rfl, ext_of (by (try simp only [ext_ext]); repeat (first | exact Bel.refl _ | assumption | refine bel_and ?_ _ | refine bel_drews ?_ _ | refine Bel.ext ?_ _ | refine Bel.alloc ?_ _ | refine Bel.drewN ?_ _))⟩
set_option maxHeartbeats 400000 in
theorem find_any (A : Option Addr) (c : Nat) (l : List Pt) (id : Int) (w : World) (hs : Sl w 3 A l.length c (vp l)) (hl : l.length ≤ 1000000) (hinc : incB l = true) :
    Calls Try.prog 68 #[.agg #[.slice A l.length c], .int .i64 id] w fun e w' => e = .returned (.tuple #[.int .i64 (lowB l id), .bool (hasB l id)]) ∧ ∃ x, w' = ext w x := by
  have q := Lib.hid (fun W hb => bsf_any A c l id W (hs.bel (w' := W) hb) hl hinc)
  clear hinc
  go_enter Try.func68, Try.ntmps68
  go_wp2_with ((go_at_call 97; refine (q.out _ (by (try simp only [ext_ext]); repeat (first | exact Bel.refl _ | assumption | refine bel_and ?_ _ | refine bel_drews ?_ _ | refine Bel.ext ?_ _ | refine Bel.alloc ?_ _ | refine Bel.drewN ?_ _))).mono ?_; rintro e _ ⟨rfl, nx, rfl⟩))
  go_ret2
  exact ⟨rfl, ext_of (by (try simp only [ext_ext]); repeat (first | exact Bel.refl _ | assumption | refine bel_and ?_ _ | refine bel_drews ?_ _ | refine Bel.ext ?_ _ | refine Bel.alloc ?_ _ | refine Bel.drewN ?_ _))⟩
/-- where the point with an ID is; an error -/
def fieldPlace (l : List Pt) (id : Int) : Int × Int := if fieldChk l ≠ 0 then (0, fieldChk l) else if hasB l id then ((lowB l id : Int), 0) else (0, 6)
set_option maxHeartbeats 1000000 in
theorem place_any (A : Option Addr) (c : Nat) (l : List Pt) (id : Int) (w : World) (hs : Sl w 3 A l.length c (vp l)) :
    Calls Try.prog 65 #[.agg #[.slice A l.length c], .int .i64 id] w fun e w' => e = .returned (.tuple #[.int .i64 (fieldPlace l id).1, .int .i64 (fieldPlace l id).2]) ∧ ∃ x, w' = ext w x := by
  have q1 := Lib.hid (fun W hb => fieldCheck_any A c l W (hs.bel (w' := W) hb))
  by_cases h0 : fieldChk l = 0
  · obtain ⟨h1, h2, h3⟩ := fieldChk_zero h0
    have q2 := Lib.hid (fun W hb => find_any A c l id W (hs.bel (w' := W) hb) (by omega) h3)
    cases hb : hasB l id with
    | true =>
      have H : Hid (fieldPlace l id = ((lowB l id : Int), 0)) := Lib.hid (by simp [fieldPlace, h0, hb])
      rw [h0] at q1
      rw [hb] at q2
      clear h0 h2 h3 hb
      go_enter Try.func65, Try.ntmps65
      go_wp2_with (first | (go_at_call 25; refine (q1.out _ (by (try simp only [ext_ext]); repeat (first | exact Bel.refl _ | assumption | refine bel_and ?_ _ | refine bel_drews ?_ _ | refine Bel.ext ?_ _ | refine Bel.alloc ?_ _ | refine Bel.drewN ?_ _))).mono ?_; rintro e _ ⟨rfl, nx, rfl⟩) | (go_at_call 68; refine (q2.out _ (by (try simp only [ext_ext]); repeat (first | exact Bel.refl _ | assumption | refine bel_and ?_ _ | refine bel_drews ?_ _ | refine Bel.ext ?_ _ | refine Bel.alloc ?_ _ | refine Bel.drewN ?_ _))).mono ?_; rintro e _ ⟨rfl, nx, rfl⟩))
      go_ret2
      exact ⟨by rw [H.out]; rfl, ext_of (by (try simp only [ext_ext]); repeat (first | exact Bel.refl _ | assumption | refine bel_and ?_ _ | refine bel_drews ?_ _ | refine Bel.ext ?_ _ | refine Bel.alloc ?_ _ | refine Bel.drewN ?_ _))⟩
    | false =>
      have H : Hid (fieldPlace l id = (0, 6)) := Lib.hid (by simp [fieldPlace, h0, hb])
      rw [h0] at q1
      rw [hb] at q2
      clear h0 h2 h3 hb
      go_enter Try.func65, Try.ntmps65
      go_wp2_with (first | (go_at_call 25; refine (q1.out _ (by (try simp only [ext_ext]); repeat (first | exact Bel.refl _ | assumption | refine bel_and ?_ _ | refine bel_drews ?_ _ | refine Bel.ext ?_ _ | refine Bel.alloc ?_ _ | refine Bel.drewN ?_ _))).mono ?_; rintro e _ ⟨rfl, nx, rfl⟩) | (go_at_call 68; refine (q2.out _ (by (try simp only [ext_ext]); repeat (first | exact Bel.refl _ | assumption | refine bel_and ?_ _ | refine bel_drews ?_ _ | refine Bel.ext ?_ _ | refine Bel.alloc ?_ _ | refine Bel.drewN ?_ _))).mono ?_; rintro e _ ⟨rfl, nx, rfl⟩))
      go_ret2
      exact ⟨by rw [H.out]; rfl, ext_of (by (try simp only [ext_ext]); repeat (first | exact Bel.refl _ | assumption | refine bel_and ?_ _ | refine bel_drews ?_ _ | refine Bel.ext ?_ _ | refine Bel.alloc ?_ _ | refine Bel.drewN ?_ _))⟩
  · have H : Hid (fieldPlace l id = (0, fieldChk l)) := Lib.hid (by simp [fieldPlace, h0])
    have hz : (fieldChk l == 0) = false := by simpa using h0
    have hz' : (fieldChk l != 0) = true := by simpa using h0
    clear h0
    go_enter Try.func65, Try.ntmps65
    go_wp2_with ((go_at_call 25; refine (q1.out _ (by (try simp only [ext_ext]); repeat (first | exact Bel.refl _ | assumption | refine bel_and ?_ _ | refine bel_drews ?_ _ | refine Bel.ext ?_ _ | refine Bel.alloc ?_ _ | refine Bel.drewN ?_ _))).mono ?_; rintro e _ ⟨rfl, nx, rfl⟩))
    go_ret2
    exact ⟨by rw [H.out]; rfl, ext_of (by (try simp only [ext_ext]); repeat (first | exact Bel.refl _ | assumption | refine bel_and ?_ _ | refine bel_drews ?_ _ | refine Bel.ext ?_ _ | refine Bel.alloc ?_ _ | refine Bel.drewN ?_ _))⟩
end Go.Proofs.Ytkcpnclgcmnlcaa

namespace Go.Proofs.Ytkcpnclgcmnlcaa
open Go.RowKit Go.Pel Go.IntWalk
set_option maxRecDepth 10000 in
set_option maxHeartbeats 1000000 in
theorem clone_any (A : Option Addr) (c : Nat) (l : List Pt) (w : World) (hs : Sl w 3 A l.length c (vp l)) (hn : A = none → c = 0) (hl : l.length ≤ 1000000) :
    Calls Try.prog 70 #[.slice A l.length c] w fun e w' => ∃ A' c', e = .returned (.slice A' l.length c') ∧ ∃ x, w' = ext w x ∧ Own (ext w x) w.heap.size 26 3 A' l.length c' (vp l) := by
  have hnil := fun W n c n' c' => Lib.run_eql_slice_nil (P := Try.prog) W 22 26 A n c n' c' Try.underlying22
  cases A with
  | none =>
    obtain rfl := hn rfl
    obtain rfl : l = [] := by
      cases l with
      | nil => rfl
      | cons p l => obtain ⟨b, o, h, _⟩ := hs.at_ (by simp); cases h
    go_enter Try.func70, Try.ntmps70
    go_wp2
    go_ret
    exact ⟨none, 0, rfl, ext_nil _ _ _ _⟩
  | some a =>
    go_enter Try.func70, Try.ntmps70
    go_wp2_with ((at_builtin; (try refine wpList_unguard rfl (by first | rfl | simp [yielded]) ?_); refine append_new slt_pts (by (try simp only [ext_ext]); repeat (first | exact Bel.refl _ | assumption | refine bel_and ?_ _ | refine bel_drews ?_ _ | refine Bel.ext ?_ _ | refine Bel.alloc ?_ _ | refine Bel.drewN ?_ _)) (hs) (by (try simp only [ext_ext]); repeat (first | exact Bel.refl _ | assumption | refine bel_and ?_ _ | refine bel_drews ?_ _ | refine Bel.ext ?_ _ | refine Bel.alloc ?_ _ | refine Bel.drewN ?_ _)) (vp_one _) (hn) (by omega) rfl _ _ rfl rfl rfl (by simp [go_sem]) ?_; rintro A1 c1 y1 hown1))
    go_ret
    exact ⟨_, _, rfl, own_ret (by (try simp only [ext_ext]); repeat (first | exact Bel.refl _ | assumption | refine bel_and ?_ _ | refine bel_drews ?_ _ | refine Bel.ext ?_ _ | refine Bel.alloc ?_ _ | refine Bel.drewN ?_ _)) (own_swap (by simp [go_sem]) hown1 (by simp [go_sem])) (Bel.refl _) (by simp [go_sem])⟩
set_option maxRecDepth 10000 in
set_option maxHeartbeats 2000000 in
theorem insert_end (A : Option Addr) (c : Nat) (l : List Pt) (p : Pt) (g cg : Nat) (wB w : World) (hb : Bel wB w) (hown : Own w wB.heap.size 26 3 A l.length c (vp l)) (hv : Sl w 3 (some ⟨g, 0, none⟩) 1 cg p.cells) (hl : l.length ≤ 1000000) :
    Calls Try.prog 69 #[.slice A l.length c, .int .i64 l.length, .slice (some ⟨g, 0, none⟩) 1 cg] w fun e w' => ∃ A' c', e = .returned (.slice A' (l.length + 1) c') ∧ ∃ y, w' = ext wB y ∧ Own (ext wB y) wB.heap.size 26 3 A' (l.length + 1) c' (vp (l ++ [p])) := by
  have hc := hown.cap
  rw [vp_snoc]
  cases A with
  | none =>
    go_enter Try.func69, Try.ntmps69
    go_wp2_with ((at_builtin; (try refine wpList_unguard rfl (by first | rfl | simp [yielded]) ?_); refine append_any slt_pts (by (try simp only [ext_ext]); repeat (first | exact Bel.refl _ | assumption | refine bel_and ?_ _ | refine bel_drews ?_ _ | refine Bel.ext ?_ _ | refine Bel.alloc ?_ _ | refine Bel.drewN ?_ _)) hown (by (try simp only [ext_ext]); repeat (first | exact Bel.refl _ | assumption | refine bel_and ?_ _ | refine bel_drews ?_ _ | refine Bel.ext ?_ _ | refine Bel.alloc ?_ _ | refine Bel.drewN ?_ _)) (hv) (by (try simp only [ext_ext]); repeat (first | exact Bel.refl _ | assumption | refine bel_and ?_ _ | refine bel_drews ?_ _ | refine Bel.ext ?_ _ | refine Bel.alloc ?_ _ | refine Bel.drewN ?_ _)) (pt_one _) ((fun h => by cases h)) (by omega) rfl _ _ rfl rfl rfl ?_; rintro A1 c1 y1 hown1))
    go_ret
    exact ⟨_, _, rfl, _, rfl, hown1⟩
  | some a =>
    obtain ⟨b0, o, h, _⟩ : ∃ b o, some a = some ⟨b, o, none⟩ ∧ True := by
      rcases hown.row with ⟨h, _⟩ | ⟨g, cur, h, _⟩
      · cases h
      · exact ⟨g, 0, h, trivial⟩
    obtain rfl := Option.some.inj h
    by_cases hcn : l.length < c
    · have h1 : (l.length : Int) < (c : Int) := by omega
      go_enter Try.func69, Try.ntmps69
      go_wp2_with ((at_builtin; (try refine wpList_unguard rfl (by first | rfl | simp [yielded]) ?_); refine append_any slt_pts (by (try simp only [ext_ext]); repeat (first | exact Bel.refl _ | assumption | refine bel_and ?_ _ | refine bel_drews ?_ _ | refine Bel.ext ?_ _ | refine Bel.alloc ?_ _ | refine Bel.drewN ?_ _)) hown (by (try simp only [ext_ext]); repeat (first | exact Bel.refl _ | assumption | refine bel_and ?_ _ | refine bel_drews ?_ _ | refine Bel.ext ?_ _ | refine Bel.alloc ?_ _ | refine Bel.drewN ?_ _)) (hv) (by (try simp only [ext_ext]); repeat (first | exact Bel.refl _ | assumption | refine bel_and ?_ _ | refine bel_drews ?_ _ | refine Bel.ext ?_ _ | refine Bel.alloc ?_ _ | refine Bel.drewN ?_ _)) (pt_one _) ((fun h => by cases h)) (by omega) rfl _ _ rfl rfl rfl ?_; rintro A1 c1 y1 hown1))
      go_ret
      exact ⟨_, _, rfl, _, rfl, hown1⟩
    · obtain rfl : c = l.length := by omega
      go_enter Try.func69, Try.ntmps69
      go_wp2_with ((at_builtin; (try refine wpList_unguard rfl (by first | rfl | simp [yielded]) ?_); refine append_any slt_pts (by (try simp only [ext_ext]); repeat (first | exact Bel.refl _ | assumption | refine bel_and ?_ _ | refine bel_drews ?_ _ | refine Bel.ext ?_ _ | refine Bel.alloc ?_ _ | refine Bel.drewN ?_ _)) hown (by (try simp only [ext_ext]); repeat (first | exact Bel.refl _ | assumption | refine bel_and ?_ _ | refine bel_drews ?_ _ | refine Bel.ext ?_ _ | refine Bel.alloc ?_ _ | refine Bel.drewN ?_ _)) (hv) (by (try simp only [ext_ext]); repeat (first | exact Bel.refl _ | assumption | refine bel_and ?_ _ | refine bel_drews ?_ _ | refine Bel.ext ?_ _ | refine Bel.alloc ?_ _ | refine Bel.drewN ?_ _)) (pt_one _) ((fun h => by cases h)) (by omega) rfl _ _ rfl rfl rfl ?_; rintro A1 c1 y1 hown1))
      go_ret
      exact ⟨_, _, rfl, _, rfl, hown1⟩
theorem ins_cells (cur A p M : List Value) (i n : Nat) (hA : cur.take (i * 3) = A) (hc : i * 3 ≤ cur.length) (hp : p.length = 3) (hM : M.length = (n - i) * 3) (hi : i ≤ n) :
    ((cur.take (i * 3) ++ p ++ cur.drop (i * 3 + p.length)).take ((i + 1) * 3) ++ (M ++ (cur.take (i * 3) ++ p ++ cur.drop (i * 3 + p.length)).drop ((i + 1) * 3 + M.length))).take ((n + 1) * 3) = A ++ (p ++ M) := by
  have hAl : A.length = i * 3 := by rw [← hA, List.length_take]; omega
  have e1 : (i + 1) * 3 = (A ++ p).length := by rw [List.length_append, hAl, hp]; omega
  rw [hA, e1, List.take_left]
  have e2 : (n + 1) * 3 = (A ++ p ++ M).length := by rw [List.length_append, ← e1, hM]; omega
  rw [e2, ← List.append_assoc, List.take_left, List.append_assoc]
set_option maxRecDepth 10000 in
set_option maxHeartbeats 2000000 in
theorem insert_grow (a c : Nat) (l : List Pt) (i : Nat) (p : Pt) (g cg : Nat) (wB w : World) (hb : Bel wB w) (hown : Own w wB.heap.size 26 3 (some ⟨a, 0, none⟩) l.length c (vp l)) (hv : Sl w 3 (some ⟨g, 0, none⟩) 1 cg p.cells) (hl : l.length ≤ 1000000) (hi : i < l.length) (hcn : c < l.length + 1) :
    Calls Try.prog 69 #[.slice (some ⟨a, 0, none⟩) l.length c, .int .i64 i, .slice (some ⟨g, 0, none⟩) 1 cg] w fun e w' => ∃ A' c', e = .returned (.slice A' (l.length + 1) c') ∧ ∃ y, w' = ext wB y ∧ Own (ext wB y) wB.heap.size 26 3 A' (l.length + 1) c' (vp (l.take i ++ p :: l.drop i)) := by
  have hc := hown.cap
  obtain rfl : c = l.length := by omega
  obtain ⟨k, hk⟩ : ∃ k, l.length + 1 = i + k := ⟨l.length + 1 - i, by omega⟩
  have h1 : (i : Int) < (l.length : Int) := by omega
  have h2 : ((i : Int) == (l.length : Int)) = false := by rw [beq_eq_false_iff_ne]; omega
  have h3 : (l.length : Int) + 1 - (i : Int) = (k : Int) := by omega
  have HK := Lib.hid hk; clear hk
  have hsl : Sl w 3 (some ⟨a, 0, none⟩) i l.length (vp (l.take i)) := fl_sl_take pt_len hown.sl (by omega)
  go_enter Try.func69, Try.ntmps69
  go_wp2_with (first
    | (at_builtin; refine append_zeros (z := .agg #[.int .i64 0, .int .i64 0, .int .i64 0]) slt_pts (by kernel_rfl) hb hsl (by have := HK.out; omega) (by have := HK.out; omega) (by have := HK.out; omega) (by omega) rfl _ _ rfl rfl rfl ?_; rintro G W1 cur hbB hbw hrow hGn htk; have h4 : (i : Int) ≤ ((i + k : Nat) : Int) := by omega)
    | (refine copy_row slt_pts hrow (i * 3) _ _ (b := g) (so := 0) (sLen := 1) (sCap := cg) p.cells (by have := HK.out; rw [pt_len, show Nat.min 1 k = 1 from Nat.min_eq_left (by omega)]) (fun j v hj => by have := (hv.bel hbw).cell hj; exact this) (by have := HK.out; rw [pt_len, hrow.len]; omega) (pt_one p) rfl _ _ rfl rfl rfl ?_))
  have hk2 : 2 ≤ k := by have := HK.out; omega
  have hlc := hrow.len
  have hr1 := hrow.set (cur' := cur.take (i * 3) ++ p.cells ++ cur.drop (i * 3 + p.cells.length)) (by
    have := HK.out
    simp only [List.length_append, List.length_take, List.length_drop, pt_len, hlc]; omega)
  have hb1 := hrow.bel_set hbw (Nat.le_refl _) (cur.take (i * 3) ++ p.cells ++ cur.drop (i * 3 + p.cells.length)).toArray
  have h5 : (i : Int) + 1 ≤ ((i + k : Nat) : Int) := by omega
  have h6 : (i : Int) + 1 ≤ (G : Int) := by omega
  have hsd : Sl w 3 (some ⟨a, 0 + i * 3, none⟩) (l.length - i) (l.length - i) (vp (l.drop i)) := fl_sl_drop pt_len hown.sl (by omega)
  have hins := Lib.hid (ins_cells cur (vp (l.take i)) p.cells (vp (l.drop i)) i l.length htk (by have := HK.out; omega) (pt_len p) (by rw [vp_len, List.length_drop]) (by omega))
  generalize hC1 : cur.take (i * 3) ++ p.cells ++ cur.drop (i * 3 + p.cells.length) = C1 at hr1 hb1 hins ⊢
  generalize hW2 : W1.setRow w.heap.size C1.toArray = W2 at hr1 hb1 ⊢
  have hbB2 : Bel wB W2 := hb.trans hb1
  clear hC1 hW2 hrow htk hbw hbB
  have h7 : IntKind.i64.wrap ((i : Int) + 1) = (i : Int) + 1 := i64_in _ (by omega)
  have h8 : ((i : Int) + 1).toNat = i + 1 := by omega
  have h9 : (0 : Int) ≤ (i : Int) + 1 := by omega
  go_frame
  ((first | refine RegC.wp_region_tail1 8 (by kernel_rfl) (by kernel_rfl) ?_ | refine RegC.wp_region_tail0 8 (by kernel_rfl) (by kernel_rfl) ?_); simp only [List.take_succ_cons, List.take_zero, List.drop_succ_cons, List.drop_zero]; (repeat (any_goals (first | go_big_quiet_step (fail) | (refine RegC.wpQuiet_split rfl rfl (fun hb => ?_) (fun hb => ?_) <;> simp only [hb])))); all_goals (refine wpQuiet_nil ?_; rintro _ ⟨nq, rfl⟩))
  clear h7
  go_wp2_with (refine copy_row slt_pts (hr1.bel (bel_ext W2 nq)) ((i + 1) * 3) _ _ (b := a) (so := i * 3) (sLen := l.length - i) (sCap := l.length - i) (vp (l.drop i)) (by have := HK.out; rw [vp_len, List.length_drop, show Nat.min (l.length - i) (i + k - (i + 1)) = l.length - i from Nat.min_eq_left (by omega)]) (fun j v hj => by have := ((hsd.bel hb1).bel (bel_ext W2 nq)).cell hj; rw [Nat.zero_add] at this; exact this) (by have := HK.out; rw [vp_len, List.length_drop, hr1.len]; omega) (vp_one _) rfl _ _ rfl rfl rfl ?_)
  have hrF := hr1.bel (bel_ext W2 nq)
  obtain ⟨C2, hC2⟩ : ∃ C2, C1.take ((i + 1) * 3) ++ (vp (l.drop i) ++ C1.drop ((i + 1) * 3 + (vp (l.drop i)).length)) = C2 := ⟨_, rfl⟩
  rw [hC2]
  rw [hC2] at hins
  have hC2l : C2.length = C1.length := by
    have := HK.out
    rw [← hC2]
    simp only [List.length_append, List.length_take, List.length_drop, vp_len, hr1.len]; omega
  have hbF := hrF.bel_set (hbB2.ext nq) hb.le C2.toArray
  have hown2 := (hrF.set hC2l).own (n := l.length + 1) (by have := HK.out; omega)
  rw [hins.out] at hown2
  go_ret
  obtain ⟨y, hy⟩ := ext_of hbF
  refine ⟨some ⟨w.heap.size, 0, none⟩, G, by rw [HK.out]; rfl, y, hy, ?_⟩
  rw [← hy, vp_append]
  exact hown2
theorem ins_cells2 (cur A p M : List Value) (i n : Nat) (hi : i ≤ n) (hA : (cur.take (n * 3)).take (i * 3) = A) (hc : (n + 1) * 3 ≤ cur.length) (hp : p.length = 3) (hM : M.length = (n - i) * 3) :
    ((cur.take ((i + 1) * 3) ++ (M ++ cur.drop ((i + 1) * 3 + M.length))).take (i * 3) ++ (p ++ (cur.take ((i + 1) * 3) ++ (M ++ cur.drop ((i + 1) * 3 + M.length))).drop (i * 3 + p.length))).take ((n + 1) * 3) = A ++ (p ++ M) := by
  rw [List.take_take, Nat.min_eq_left (by omega)] at hA
  have hAl : A.length = i * 3 := by rw [← hA, List.length_take]; omega
  have hB : (cur.take ((i + 1) * 3)).length = (i + 1) * 3 := by rw [List.length_take]; omega
  have e0 : (cur.take ((i + 1) * 3) ++ (M ++ cur.drop ((i + 1) * 3 + M.length))).take (i * 3) = A := by
    rw [List.take_append_of_le_length (by omega), List.take_take, Nat.min_eq_left (by omega), hA]
  have e1 : (cur.take ((i + 1) * 3) ++ (M ++ cur.drop ((i + 1) * 3 + M.length))).drop (i * 3 + p.length) = M ++ cur.drop ((i + 1) * 3 + M.length) := by
    rw [show i * 3 + p.length = (cur.take ((i + 1) * 3)).length by omega, List.drop_left]
  rw [e0, e1]
  have e2 : (n + 1) * 3 = (A ++ (p ++ M)).length := by simp only [List.length_append, hAl, hp, hM]; omega
  rw [e2, show A ++ (p ++ (M ++ cur.drop ((i + 1) * 3 + M.length))) = (A ++ (p ++ M)) ++ cur.drop ((i + 1) * 3 + M.length) by simp only [List.append_assoc], List.take_left]
set_option maxRecDepth 10000 in
set_option maxHeartbeats 2000000 in
theorem insert_room (a c : Nat) (l : List Pt) (i : Nat) (p : Pt) (g cg : Nat) (wB w : World) (hb : Bel wB w) (hown : Own w wB.heap.size 26 3 (some ⟨a, 0, none⟩) l.length c (vp l)) (hv : Sl w 3 (some ⟨g, 0, none⟩) 1 cg p.cells) (hl : l.length ≤ 1000000) (hi : i < l.length) (hcn : l.length + 1 ≤ c) (hga : g ≠ a) (hvs : w.shape? g = some (26, 3)) (hvf : ∀ j, w.frozen? ⟨g, j, none⟩ = false) :
    Calls Try.prog 69 #[.slice (some ⟨a, 0, none⟩) l.length c, .int .i64 i, .slice (some ⟨g, 0, none⟩) 1 cg] w fun e w' => ∃ A' c', e = .returned (.slice A' (l.length + 1) c') ∧ ∃ y, w' = ext wB y ∧ Own (ext wB y) wB.heap.size 26 3 A' (l.length + 1) c' (vp (l.take i ++ p :: l.drop i)) := by
  have h1 : (i : Int) < (l.length : Int) := by omega
  have h2 : ((i : Int) == (l.length : Int)) = false := by rw [beq_eq_false_iff_ne]; omega
  have h3 : ¬ (c : Int) < (l.length : Int) + 1 := by omega
  have h4 : (l.length : Int) + 1 ≤ (c : Int) := by omega
  go_enter Try.func69, Try.ntmps69
  have hra := hown.row
  obtain ⟨cur, hrow, htk⟩ : ∃ cur, Row w wB.heap.size 26 3 a c cur ∧ cur.take (l.length * 3) = vp l := by
    rcases hown.row with ⟨h, _⟩ | ⟨g', cur, h, hr, _, ht⟩
    · cases h
    · obtain rfl : a = g' := by injection h with h; injection h
      exact ⟨cur, hr, ht⟩
  have hov : (callFunc 100 #[.slice (some ⟨g, 0, none⟩) 1 cg, .slice (some ⟨a, (i + 1) * 3, none⟩) (l.length - i) (c - (i + 1))]).run Try.prog w = .ok (.value (.bool false)) w := by
    rw [run_callFunc_extern Try.func100 (by kernel_rfl) (by kernel_rfl) (by kernel_rfl) (e := Extern.SlicesOverlaps.overlaps #[22, 22] #[4]) (by kernel_rfl),
      Lib.run_overlaps_apart w 22 4 26 Try.underlying22 3 (fun _ => by kernel_rfl) ⟨g, 0, none⟩ ⟨a, (i + 1) * 3, none⟩ 1 cg _ _ hga 26 26 3 (c * 3) hvs (by simp [World.shape?, hrow.2.1, hrow.len]) (by omega) (hvf 0) (hvf 3)]
    rfl
  have hp0 : p.cells.length = 3 := rfl
  have hsd : Sl w 3 (some ⟨a, 0 + i * 3, none⟩) (l.length - i) (c - i) (vp (l.drop i)) := fl_sl_drop pt_len hown.sl (by omega)
  go_wp2
  have h7 : IntKind.i64.wrap ((i : Int) + 1) = (i : Int) + 1 := i64_in _ (by omega)
  have h8 : ((i : Int) + 1).toNat = i + 1 := by omega
  have h9 : (0 : Int) ≤ (i : Int) + 1 := by omega
  (try go_frame)
  ((first | refine RegC.wp_region_tail1 8 (by kernel_rfl) (by kernel_rfl) ?_ | refine RegC.wp_region_tail0 8 (by kernel_rfl) (by kernel_rfl) ?_); simp only [List.take_succ_cons, List.take_zero, List.drop_succ_cons, List.drop_zero]; (repeat (any_goals (first | go_big_quiet_step (fail) | (refine RegC.wpQuiet_split rfl rfl (fun hb => ?_) (fun hb => ?_) <;> simp only [hb])))); all_goals (refine wpQuiet_nil ?_; rintro _ ⟨nq, rfl⟩))
  clear h7
  have hbw := bel_ext w nq
  go_wp2_with (first
    | (refine copy_rowC slt_pts (hb.ext nq) (hrow.bel (bel_ext w nq)) ((i + 1) * 3) _ _ (b := a) (so := i * 3) (sLen := l.length + 1 - i) (sCap := c - i) (vp (l.drop i)) (by rw [vp_len, List.length_drop, show Nat.min (l.length + 1 - i) (l.length - i) = l.length - i from Nat.min_eq_right (by omega)]) (fun j v hj => by have := (hsd.bel (bel_ext w nq)).cell hj; rw [Nat.zero_add] at this; exact this) (by rw [vp_len, List.length_drop, hrow.len]; omega) (vp_one _) rfl _ _ rfl rfl rfl ?_; rintro W2 C1 hC1 hr1 hb1 hoth1)
    | (refine copy_rowC slt_pts hb1 hr1 (i * 3) _ _ (b := g) (so := 0) (sLen := 1) (sCap := cg) p.cells (by rw [pt_len, show Nat.min 1 (l.length + 1 - i) = 1 from Nat.min_eq_left (by omega)]) (fun j v hj => by have := (hoth1 _ _ _ _ _ _ hga (hv.bel (bel_ext w nq))).cell hj; exact this) (by rw [pt_len, hr1.len]; omega) (pt_one p) rfl _ _ rfl rfl rfl ?_; rintro W3 C2 hC2 hr2 hb2 hoth2))
  have hown2 := hr2.own (n := l.length + 1) (by omega)
  rw [hC2.out, hC1.out, ins_cells2 cur (vp (l.take i)) p.cells (vp (l.drop i)) i l.length (by omega) (by rw [htk]; exact fl_take pt_len l i) (by rw [hrow.len]; omega) (pt_len p) (by rw [vp_len, List.length_drop])] at hown2
  obtain ⟨y, hy⟩ := ext_of hb2
  go_ret
  refine ⟨some ⟨a, 0, none⟩, c, rfl, y, hy, ?_⟩
  rw [← hy, vp_append]
  exact hown2
end Go.Proofs.Ytkcpnclgcmnlcaa

namespace Go.Proofs.Ytkcpnclgcmnlcaa
open Go.RowKit Go.Pel Go.IntWalk
theorem insert_any (A : Option Addr) (c : Nat) (l : List Pt) (i : Nat) (p : Pt) (g cg : Nat) (wB w : World) (hb : Bel wB w) (hown : Own w wB.heap.size 26 3 A l.length c (vp l)) (hv : Sl w 3 (some ⟨g, 0, none⟩) 1 cg p.cells) (hl : l.length ≤ 1000000) (hi : i ≤ l.length) (hga : some (⟨g, 0, none⟩ : Addr) ≠ A) (hvs : w.shape? g = some (26, 3)) (hvf : ∀ j, w.frozen? ⟨g, j, none⟩ = false) :
    Calls Try.prog 69 #[.slice A l.length c, .int .i64 i, .slice (some ⟨g, 0, none⟩) 1 cg] w fun e w' => ∃ A' c', e = .returned (.slice A' (l.length + 1) c') ∧ ∃ y, w' = ext wB y ∧ Own (ext wB y) wB.heap.size 26 3 A' (l.length + 1) c' (vp (l.take i ++ p :: l.drop i)) := by
  rcases Nat.lt_or_ge i l.length with h | h
  · obtain ⟨a, rfl⟩ : ∃ a, A = some ⟨a, 0, none⟩ := by
      rcases hown.row with ⟨_, h0, _⟩ | ⟨a, cur, h0, _⟩
      · omega
      · exact ⟨a, h0⟩
    rcases Nat.lt_or_ge c (l.length + 1) with h1 | h1
    · exact insert_grow a c l i p g cg wB w hb hown hv hl h h1
    · exact insert_room a c l i p g cg wB w hb hown hv hl h h1 (fun h => hga (by rw [h])) hvs hvf
  · obtain rfl : i = l.length := by omega
    rw [List.take_length, List.drop_length]
    exact insert_end A c l p g cg wB w hb hown hv hl
theorem del_cells (cur A M C1 C2 : List Value) (i m n : Nat) (hi : i < n) (hA : (cur.take (n * 3)).take (i * 3) = A) (hc : n * 3 ≤ cur.length) (hM : M.length = m * 3)
    (h1 : C1 = cur.take (i * 3) ++ (M ++ cur.drop (i * 3 + M.length))) (h2 : C2.take ((i + m) * 3) = C1.take ((i + m) * 3)) : C2.take ((i + m) * 3) = A ++ M := by
  rw [List.take_take, Nat.min_eq_left (by omega)] at hA
  have hAl : A.length = i * 3 := by rw [← hA, List.length_take]; omega
  rw [h2, h1, hA, ← List.append_assoc, show (i + m) * 3 = (A ++ M).length by rw [List.length_append, hAl, hM]; omega, List.take_left]
theorem zpt_run (w : World) : (zeroValue 26).run Try.prog w = .ok (.agg #[.int .i64 0, .int .i64 0, .int .i64 0]) w := by kernel_rfl
set_option maxRecDepth 10000 in
set_option maxHeartbeats 2000000 in
theorem delete_any (a c : Nat) (l : List Pt) (i : Nat) (wB w : World) (hb : Bel wB w) (hown : Own w wB.heap.size 26 3 (some ⟨a, 0, none⟩) l.length c (vp l)) (hl : l.length ≤ 1000000) (hi : i < l.length) :
    Calls Try.prog 71 #[.slice (some ⟨a, 0, none⟩) l.length c, .int .i64 i, .int .i64 (i + 1)] w fun e w' => ∃ A' c', e = .returned (.slice A' (l.length - 1) c') ∧ ∃ y, w' = ext wB y ∧ Own (ext wB y) wB.heap.size 26 3 A' (l.length - 1) c' (vp (l.take i ++ l.drop (i + 1))) := by
  have hc := hown.cap
  have h1 : (i : Int) < (l.length : Int) := by omega
  have h2 : ((i : Int) == (i : Int) + 1) = false := by rw [beq_eq_false_iff_ne]; omega
  have h3 : (i : Int) + 1 ≤ (l.length : Int) := by omega
  have h3' : (l.length : Int) ≤ (c : Int) := by omega
  have h8 : ((i : Int) + 1).toNat = i + 1 := by omega
  have h9 : (0 : Int) ≤ (i : Int) + 1 := by omega
  have h10 : (i : Int) ≤ (i : Int) + 1 := by omega
  obtain ⟨cur, hrow, htk⟩ : ∃ cur, Row w wB.heap.size 26 3 a c cur ∧ cur.take (l.length * 3) = vp l := by
    rcases hown.row with ⟨h, _⟩ | ⟨g', cur, h, hr, _, ht⟩
    · cases h
    · obtain rfl : a = g' := by injection h with h; injection h
      exact ⟨cur, hr, ht⟩
  have HT := Lib.hid htk; clear htk
  obtain ⟨m, hm⟩ : ∃ m, l.length = i + 1 + m := ⟨l.length - (i + 1), by omega⟩
  have hmm : l.length - (i + 1) = m := by omega
  have h12 : i + m < c := by omega
  have h13 : (i : Int) + (m : Int) ≤ (l.length : Int) := by omega
  have hsrc : ∃ b so cc, (if i + 1 < c then (⟨a, (i + 1) * 3, none⟩ : Addr) else ⟨a, 0, none⟩) = ⟨b, so, none⟩ ∧ cc = c - (i + 1) ∧ Sl w 3 (some ⟨b, so, none⟩) m cc (vp (l.drop (i + 1))) := by
    by_cases h : i + 1 < c
    · refine ⟨_, _, _, if_pos h, rfl, ?_⟩
      have := fl_sl_drop (i := i + 1) pt_len hown.sl (by omega)
      rw [Nat.zero_add, hmm] at this; exact this
    · refine ⟨_, _, _, if_neg h, rfl, ?_⟩
      obtain rfl : m = 0 := by omega
      rw [List.drop_of_length_le (by omega)]; exact Sl.nil_ _ _ _ _
  have hml : ((l.drop (i + 1)).length) = m := by rw [List.length_drop]; omega
  have HM := Lib.hid hm; have HML := Lib.hid hml; clear hm hml
  rcases Nat.lt_or_ge (i + 1) c with hic | hic
  · have hic2 : ¬ c = i + 1 := by omega
    obtain ⟨b, so, cc, hA, rfl, hS⟩ := hsrc
    rw [if_pos hic] at hA
    injection hA with e1 e2
    subst e1 e2
    go_enter Try.func71, Try.ntmps71
    go_wp2
    ((first | refine RegC.wp_region_tail1 6 (by kernel_rfl) (by kernel_rfl) ?_ | refine RegC.wp_region_tail0 6 (by kernel_rfl) (by kernel_rfl) ?_); simp only [List.take_succ_cons, List.take_zero, List.drop_succ_cons, List.drop_zero]; (repeat (any_goals (first | go_big_quiet_step (fail) | (refine RegC.wpQuiet_split rfl rfl (fun hb => ?_) (fun hb => ?_) <;> simp only [hb])))); all_goals (refine wpQuiet_nil ?_; rintro _ ⟨nq, rfl⟩))
    go_wp2_with (first
      | (refine append_roomC slt_pts (hb.ext nq) (hrow.bel (bel_ext w nq)) (hS.bel (bel_ext w nq)) (vp_one _) (by omega) rfl _ _ rfl rfl rfl ?_; rintro W2 C1 hC1 hr1 hb1 hoth1)
      | (refine clear_rowC (n := l.length - (i + m)) (i := i + m) slt_pts zpt_run (by decide) hb1 hr1 (by omega) rfl _ rfl rfl ?_; rintro W3 C2 hr2 hb2 hC2))
    have hown2 := hr2.own (n := i + m) (by omega)
    rw [del_cells cur (vp (l.take i)) (vp (l.drop (i + 1))) C1 C2 i m l.length hi (by rw [HT.out]; exact fl_take pt_len l i) (by rw [hrow.len]; omega) (by rw [vp_len, HML.out]) hC1.out hC2.out] at hown2
    obtain ⟨y, hy⟩ := ext_of hb2
    have e1 : l.length - 1 = i + m := by omega
    go_ret
    refine ⟨some ⟨a, 0, none⟩, _, by rw [e1]; rfl, y, hy, ?_⟩
    rw [← hy, vp_append, e1]
    exact hown2
  · obtain rfl : c = i + 1 := by omega
    obtain ⟨b, so, cc, hA, rfl, hS⟩ := hsrc
    rw [if_neg (by omega)] at hA
    injection hA with e1 e2
    subst e1 e2
    rw [Nat.sub_self] at hS
    go_enter Try.func71, Try.ntmps71
    go_wp2
    ((first | refine RegC.wp_region_tail1 6 (by kernel_rfl) (by kernel_rfl) ?_ | refine RegC.wp_region_tail0 6 (by kernel_rfl) (by kernel_rfl) ?_); simp only [List.take_succ_cons, List.take_zero, List.drop_succ_cons, List.drop_zero]; (repeat (any_goals (first | go_big_quiet_step (fail) | (refine RegC.wpQuiet_split rfl rfl (fun hb => ?_) (fun hb => ?_) <;> simp only [hb])))); all_goals (refine wpQuiet_nil ?_; rintro _ ⟨nq, rfl⟩))
    go_wp2_with (first
      | (refine append_roomC slt_pts (hb.ext nq) (hrow.bel (bel_ext w nq)) (hS.bel (bel_ext w nq)) (vp_one _) (by omega) rfl _ _ rfl rfl rfl ?_; rintro W2 C1 hC1 hr1 hb1 hoth1)
      | (refine clear_rowC (n := l.length - (i + m)) (i := i + m) slt_pts zpt_run (by decide) hb1 hr1 (by omega) rfl _ rfl rfl ?_; rintro W3 C2 hr2 hb2 hC2))
    have hown2 := hr2.own (n := i + m) (by omega)
    rw [del_cells cur (vp (l.take i)) (vp (l.drop (i + 1))) C1 C2 i m l.length hi (by rw [HT.out]; exact fl_take pt_len l i) (by rw [hrow.len]; omega) (by rw [vp_len, HML.out]) hC1.out hC2.out] at hown2
    obtain ⟨y, hy⟩ := ext_of hb2
    have e1 : l.length - 1 = i + m := by omega
    go_ret
    refine ⟨some ⟨a, 0, none⟩, _, by rw [e1]; rfl, y, hy, ?_⟩
    rw [← hy, vp_append, e1]
    exact hown2
end Go.Proofs.Ytkcpnclgcmnlcaa

namespace Go.Proofs.Ytkcpnclgcmnlcaa
open Go.RowKit Go.Pel Go.IntWalk
theorem place_zero {l : List Pt} {id : Int} (h : (fieldPlace l id).2 = 0) : fieldChk l = 0 ∧ hasB l id = true ∧ (fieldPlace l id).1 = lowB l id := by
  unfold fieldPlace at h ⊢
  by_cases h0 : fieldChk l = 0
  · cases hb : hasB l id
    · simp [h0, hb] at h
    · simp [h0]
  · rw [if_pos h0] at h; exact absurd h h0
theorem find_eq (l : List Pt) (id : Int) : fieldFind l id = if (fieldPlace l id).2 = 0 then (l.getD (lowB l id) Pt.zero, 0) else (Pt.zero, (fieldPlace l id).2) := by
  unfold fieldFind fieldPlace
  by_cases h0 : fieldChk l = 0
  · cases hb : hasB l id <;> simp [h0]
  · simp [h0]
theorem take_eq (l : List Pt) (id : Int) : fieldTake l id = if (fieldPlace l id).2 = 0 then (l.take (lowB l id) ++ l.drop (lowB l id + 1), 0) else ([], (fieldPlace l id).2) := by
  unfold fieldTake fieldPlace
  by_cases h0 : fieldChk l = 0
  · cases hb : hasB l id <;> simp [h0]
  · simp [h0]
set_option maxRecDepth 10000 in
set_option maxHeartbeats 2000000 in
theorem fieldFind_any (A : Option Addr) (c : Nat) (l : List Pt) (id : Int) (w : World) (hs : Sl w 3 A l.length c (vp l)) :
    Calls Try.prog 17 #[.agg #[.slice A l.length c], .int .i64 id] w fun e w' => e = .returned (.tuple #[.agg #[.int .i64 (fieldFind l id).1.id, .int .i64 (fieldFind l id).1.a, .int .i64 (fieldFind l id).1.b], .int .i64 (fieldFind l id).2]) ∧ ∃ x, w' = ext w x := by
  have q := Lib.hid (fun W hb => place_any A c l id W (hs.bel (w' := W) hb))
  by_cases h : (fieldPlace l id).2 = 0
  · obtain ⟨h1, h2, h3⟩ := place_zero h
    obtain ⟨h64, hchk, hinc⟩ := fieldChk_zero h1
    obtain ⟨h4, p, hp, h5⟩ := atI_low hinc h2
    have HF : Hid (fieldFind l id = (p, 0)) := Lib.hid (by rw [find_eq, if_pos h, List.getD_eq_getElem?_getD, hp]; rfl)
    have hlt : lowB l id < l.length := (List.getElem?_eq_some_iff.1 hp).1
    rw [h3, h] at q
    obtain ⟨k, hk⟩ : ∃ k, lowB l id = k := ⟨_, rfl⟩
    rw [hk] at q hp hlt
    obtain ⟨b, o, rfl, hb⟩ := hs.at_ (by omega)
    obtain ⟨r0, r1, r2⟩ := pt_at hs hp
    have hlt' : (k : Int) < (l.length : Int) := by omega
    clear h h1 h2 h3 hk h4 h5 hchk hinc hp
    go_enter Try.func17, Try.ntmps17
    go_wp2_with ((go_at_call 65; refine (q.out _ (by (try simp only [ext_ext]); repeat (first | exact Bel.refl _ | assumption | refine bel_and ?_ _ | refine bel_drews ?_ _ | refine Bel.ext ?_ _ | refine Bel.alloc ?_ _ | refine Bel.drewN ?_ _))).mono ?_; rintro e _ ⟨rfl, nx, rfl⟩))
    exact bodyPost_ret (v := .tuple #[.agg #[.int .i64 p.id, .int .i64 p.a, .int .i64 p.b], .int .i64 0]) (by simp [results, Try.results17, go_sem]) rfl ⟨by rw [HF.out], ext_of (by (try simp only [ext_ext]); repeat (first | exact Bel.refl _ | assumption | refine bel_and ?_ _ | refine bel_drews ?_ _ | refine Bel.ext ?_ _ | refine Bel.alloc ?_ _ | refine Bel.drewN ?_ _))⟩
  · have HF : Hid (fieldFind l id = (Pt.zero, (fieldPlace l id).2)) := Lib.hid (by rw [find_eq, if_neg h])
    have hz : ((fieldPlace l id).2 == 0) = false := by simpa using h
    have hz' : ((fieldPlace l id).2 != 0) = true := by simpa using h
    clear h
    go_enter Try.func17, Try.ntmps17
    go_wp2_with ((go_at_call 65; refine (q.out _ (by (try simp only [ext_ext]); repeat (first | exact Bel.refl _ | assumption | refine bel_and ?_ _ | refine bel_drews ?_ _ | refine Bel.ext ?_ _ | refine Bel.alloc ?_ _ | refine Bel.drewN ?_ _))).mono ?_; rintro e _ ⟨rfl, nx, rfl⟩))
    exact bodyPost_ret (v := .tuple #[.agg #[.int .i64 0, .int .i64 0, .int .i64 0], .int .i64 (fieldPlace l id).2]) (by simp [results, Try.results17, go_sem]) rfl ⟨by (rw [HF.out]; rfl), ext_of (by (try simp only [ext_ext]); repeat (first | exact Bel.refl _ | assumption | refine bel_and ?_ _ | refine bel_drews ?_ _ | refine Bel.ext ?_ _ | refine Bel.alloc ?_ _ | refine Bel.drewN ?_ _))⟩
set_option maxRecDepth 10000 in
set_option maxHeartbeats 2000000 in
theorem fieldTake_any (A : Option Addr) (c : Nat) (l : List Pt) (id : Int) (w : World) (hs : Sl w 3 A l.length c (vp l)) (hn : A = none → c = 0) :
    Calls Try.prog 21 #[.agg #[.slice A l.length c], .int .i64 id] w fun e w' => ∃ A' c', e = .returned (.tuple #[.agg #[.slice A' (fieldTake l id).1.length c'], .int .i64 (fieldTake l id).2]) ∧ ∃ x, w' = ext w x ∧ Own (ext w x) w.heap.size 26 3 A' (fieldTake l id).1.length c' (vp (fieldTake l id).1) := by
  have q := Lib.hid (fun W hb => place_any A c l id W (hs.bel (w' := W) hb))
  by_cases h : (fieldPlace l id).2 = 0
  · obtain ⟨h1, h2, h3⟩ := place_zero h
    obtain ⟨h64, hchk, hinc⟩ := fieldChk_zero h1
    obtain ⟨h4, p, hp, h5⟩ := atI_low hinc h2
    have hlt : lowB l id < l.length := (List.getElem?_eq_some_iff.1 hp).1
    have hT : fieldTake l id = (l.take (lowB l id) ++ l.drop (lowB l id + 1), 0) := by rw [take_eq, if_pos h]
    have hlen : (l.take (lowB l id) ++ l.drop (lowB l id + 1)).length = l.length - 1 := by simp only [List.length_append, List.length_take, List.length_drop]; omega
    rw [hT]
    simp only [hlen]
    rw [h3, h] at q
    obtain ⟨k, hk⟩ : ∃ k, lowB l id = k := ⟨_, rfl⟩
    rw [hk] at q hp hlt ⊢
    have q2 := Lib.hid (fun W hb => clone_any A c l W (hs.bel (w' := W) hb) hn (by omega))
    clear h h1 h2 h3 hk h4 h5 hchk hinc hp hT hlen
    go_enter Try.func21, Try.ntmps21
    go_wp2_with (first | (go_at_call 65; refine (q.out _ (by (try simp only [ext_ext]); repeat (first | exact Bel.refl _ | assumption | refine bel_and ?_ _ | refine bel_drews ?_ _ | refine Bel.ext ?_ _ | refine Bel.alloc ?_ _ | refine Bel.drewN ?_ _))).mono ?_; rintro e _ ⟨rfl, nx, rfl⟩) | (go_at_call 70; refine (q2.out _ (by (try simp only [ext_ext]); repeat (first | exact Bel.refl _ | assumption | refine bel_and ?_ _ | refine bel_drews ?_ _ | refine Bel.ext ?_ _ | refine Bel.alloc ?_ _ | refine Bel.drewN ?_ _))).mono ?_; rintro e _ ⟨A2, c2, rfl, x2, rfl, own2⟩))
    obtain ⟨a, rfl⟩ : ∃ a, A2 = some ⟨a, 0, none⟩ := by
      rcases own2.row with ⟨_, h0, _⟩ | ⟨a, cur, h0, _⟩
      · omega
      · exact ⟨a, h0⟩
    simp only [ext_ext] at own2
    refine (delete_any a c2 l k _ _ (by (try simp only [ext_ext]); repeat (first | exact Bel.refl _ | assumption | refine bel_and ?_ _ | refine bel_drews ?_ _ | refine Bel.ext ?_ _ | refine Bel.alloc ?_ _ | refine Bel.drewN ?_ _)) own2 (by omega) hlt).mono ?_
    rintro e _ ⟨A3, c3, rfl, x3, rfl, own3⟩
    simp only [ext_ext] at own3
    go_wp2
    refine bodyPost_ret (v := .tuple #[.agg #[.slice A3 (l.length - 1) c3], .int .i64 0]) (by simp [results, Try.results21, go_sem]) rfl ?_
    exact ⟨_, _, rfl, own_ret (by (try simp only [ext_ext]); repeat (first | exact Bel.refl _ | assumption | refine bel_and ?_ _ | refine bel_drews ?_ _ | refine Bel.ext ?_ _ | refine Bel.alloc ?_ _ | refine Bel.drewN ?_ _)) (own_swap (by simp [go_sem]) own3 (by simp [go_sem])) (Bel.refl _) (by simp [go_sem])⟩
  · have HF : Hid (fieldTake l id = ([], (fieldPlace l id).2)) := Lib.hid (by rw [take_eq, if_neg h])
    have hz : ((fieldPlace l id).2 == 0) = false := by simpa using h
    have hz' : ((fieldPlace l id).2 != 0) = true := by simpa using h
    rw [HF.out]
    clear h
    go_enter Try.func21, Try.ntmps21
    go_wp2_with ((go_at_call 65; refine (q.out _ (by (try simp only [ext_ext]); repeat (first | exact Bel.refl _ | assumption | refine bel_and ?_ _ | refine bel_drews ?_ _ | refine Bel.ext ?_ _ | refine Bel.alloc ?_ _ | refine Bel.drewN ?_ _))).mono ?_; rintro e _ ⟨rfl, nx, rfl⟩))
    refine bodyPost_ret (v := .tuple #[.agg #[.slice none 0 0], .int .i64 (fieldPlace l id).2]) (by simp [results, Try.results21, go_sem]) rfl ?_
    exact ⟨_, _, rfl, nil_ret (by (try simp only [ext_ext]); repeat (first | exact Bel.refl _ | assumption | refine bel_and ?_ _ | refine bel_drews ?_ _ | refine Bel.ext ?_ _ | refine Bel.alloc ?_ _ | refine Bel.drewN ?_ _))⟩
end Go.Proofs.Ytkcpnclgcmnlcaa

namespace Go.Proofs.Ytkcpnclgcmnlcaa
open Go.RowKit Go.Pel Go.IntWalk
theorem put_len (l : List Pt) (k : Nat) (p : Pt) (hk : k ≤ l.length) : (l.take k ++ p :: l.drop k).length = l.length + 1 := by
  simp only [List.length_append, List.length_take, List.length_cons, List.length_drop]; omega
theorem insert_call {A : Option Addr} {c : Nat} {l : List Pt} {k : Nat} {p : Pt} {g B : Nat} {W0 W W1 W2 : World} (hown : Own W1 B 26 3 A l.length c (vp l)) (h1 : Bel W1 W) (h0 : Bel W0 W) (hB : W0.heap.size ≤ B)
    (h2 : Bel (W2.alloc (.cells #[.int .i64 p.id, .int .i64 p.a, .int .i64 p.b] 26)) W) (hg : g = W2.heap.size) (hne : g < B ∨ W1.heap.size ≤ g) (hl : l.length ≤ 1000000) (hk : k ≤ l.length) :
    Calls Try.prog 69 #[.slice A l.length c, .int .i64 k, .slice (some ⟨g, 0, none⟩) 1 1] W fun e w' => ∃ A' c', e = .returned (.slice A' (l.length + 1) c') ∧ ∃ y, w' = ext W0 y ∧ Own (ext W0 y) W0.heap.size 26 3 A' (l.length + 1) c' (vp (l.take k ++ p :: l.drop k)) := by
  have hv := (sl_new W2 #[.int .i64 p.id, .int .i64 p.a, .int .i64 p.b] 26 3 g hg rfl).bel h2
  subst hg
  have hhp : W.heap[W2.heap.size]? = some (.cells #[.int .i64 p.id, .int .i64 p.a, .int .i64 p.b] 26 (0, 0)) := by
    rw [h2.block _ (by simp)]; unfold World.alloc; exact Array.getElem?_push_size
  refine insert_any A c l k p W2.heap.size 1 W0 W h0 ((hown.bel h1).base_le hB) hv hl hk ?_ (by simp [World.shape?, hhp]) (by intro j; simp [World.frozen?, hhp])
  rintro rfl
  rcases hown.row with ⟨h, _⟩ | ⟨g', cur, h, hr, _⟩
  · cases h
  · have e1 : W2.heap.size = g' := by injection h with h; injection h
    have := hr.lt; have := hr.1
    omega
theorem insert_callA {A : Option Addr} {c : Nat} {l : List Pt} {k : Nat} {p : Pt} {g B : Nat} {W0 W2 W1 : World} (hown : Own W1 B 26 3 A l.length c (vp l)) (h1 : Bel W1 W2) (h0 : Bel W0 W2) (hB : W0.heap.size ≤ B) (hg : g = W2.heap.size) (hl : l.length ≤ 1000000) (hk : k ≤ l.length) :
    Calls Try.prog 69 #[.slice A l.length c, .int .i64 k, .slice (some ⟨g, 0, none⟩) 1 1] (W2.alloc (.cells #[.int .i64 p.id, .int .i64 p.a, .int .i64 p.b] 26)) fun e w' => ∃ A' c', e = .returned (.slice A' (l.length + 1) c') ∧ ∃ y, w' = ext W0 y ∧ Own (ext W0 y) W0.heap.size 26 3 A' (l.length + 1) c' (vp (l.take k ++ p :: l.drop k)) :=
  insert_call hown (h1.alloc _) (h0.alloc _) hB (Bel.refl _) hg (.inr (by rw [hg]; exact h1.le)) hl hk
theorem insert_callB {A : Option Addr} {c : Nat} {l : List Pt} {k : Nat} {p : Pt} {g B : Nat} {W0 W2 : World} {x : Beyond} (hown : Own (ext (W2.alloc (.cells #[.int .i64 p.id, .int .i64 p.a, .int .i64 p.b] 26)) x) B 26 3 A l.length c (vp l)) (h0 : Bel W0 W2) (hB : B = W2.heap.size + 1) (hg : g = W2.heap.size) (hl : l.length ≤ 1000000) (hk : k ≤ l.length) :
    Calls Try.prog 69 #[.slice A l.length c, .int .i64 k, .slice (some ⟨g, 0, none⟩) 1 1] (ext (W2.alloc (.cells #[.int .i64 p.id, .int .i64 p.a, .int .i64 p.b] 26)) x) fun e w' => ∃ A' c', e = .returned (.slice A' (l.length + 1) c') ∧ ∃ y, w' = ext W0 y ∧ Own (ext W0 y) W0.heap.size 26 3 A' (l.length + 1) c' (vp (l.take k ++ p :: l.drop k)) :=
  insert_call hown (Bel.refl _) ((h0.alloc _).ext _) (by have := h0.le; omega) (bel_ext _ _) hg (.inl (by omega)) hl hk
set_option maxRecDepth 10000 in
set_option maxHeartbeats 2000000 in
theorem fieldPut_any (A : Option Addr) (c : Nat) (l : List Pt) (p : Pt) (w : World) (hs : Sl w 3 A l.length c (vp l)) (hn : A = none → c = 0) :
    Calls Try.prog 19 #[.agg #[.slice A l.length c], .agg #[.int .i64 p.id, .int .i64 p.a, .int .i64 p.b]] w fun e w' => ∃ A' c', e = .returned (.tuple #[.agg #[.slice A' (fieldPut l p).1.length c'], .int .i64 (fieldPut l p).2]) ∧ ∃ x, w' = ext w x ∧ Own (ext w x) w.heap.size 26 3 A' (fieldPut l p).1.length c' (vp (fieldPut l p).1) := by
  have q := Lib.hid (fun W hb => fieldCheck_any A c l W (hs.bel (w' := W) hb))
  by_cases h : fieldChk l = 0
  · rw [h] at q
    obtain ⟨h64, hchk, hinc⟩ := fieldChk_zero h
    have q2 := Lib.hid (fun W hb => find_any A c l p.id W (hs.bel (w' := W) hb) (by omega) hinc)
    rcases pt_cases p with hp | hp
    · have e1 := Lib.hid (pchk_lit p 0 hp)
      cases hb : hasB l p.id with
      | true =>
        have HF : Hid (fieldPut l p = ([], 14)) := Lib.hid (by simp [fieldPut, h, hp, hb])
        rw [hb] at q2
        rw [HF.out]
        clear h hp hb hinc hchk
        go_enter Try.func19, Try.ntmps19
        go_wp2_with (first | (go_at_call 25; refine (q.out _ (by (try simp only [ext_ext]); repeat (first | exact Bel.refl _ | assumption | refine bel_and ?_ _ | refine bel_drews ?_ _ | refine Bel.ext ?_ _ | refine Bel.alloc ?_ _ | refine Bel.drewN ?_ _))).mono ?_; rintro e _ ⟨rfl, nx, rfl⟩) | (go_at_call 67; refine (e1.out _).mono ?_; rintro e _ ⟨rfl, nx, rfl⟩) | (go_at_call 68; refine (q2.out _ (by (try simp only [ext_ext]); repeat (first | exact Bel.refl _ | assumption | refine bel_and ?_ _ | refine bel_drews ?_ _ | refine Bel.ext ?_ _ | refine Bel.alloc ?_ _ | refine Bel.drewN ?_ _))).mono ?_; rintro e _ ⟨rfl, nx, rfl⟩))
        (refine bodyPost_ret (v := .tuple #[.agg #[.slice none 0 0], .int .i64 (14)]) (by simp [results, Try.results19, go_sem]) rfl ?_; exact ⟨_, _, rfl, nil_ret (by (try simp only [ext_ext]); repeat (first | exact Bel.refl _ | assumption | refine bel_and ?_ _ | refine bel_drews ?_ _ | refine Bel.ext ?_ _ | refine Bel.alloc ?_ _ | refine Bel.drewN ?_ _))⟩)
      | false =>
        rw [hb] at q2
        by_cases h0 : l.length = 64
        · have HF : Hid (fieldPut l p = ([], 18)) := Lib.hid (by simp [fieldPut, h, hp, hb, h0])
          rw [HF.out]
          have h0' : ((l.length : Int) == 64) = true := by rw [beq_iff_eq]; omega
          clear h hp hb hinc hchk h0
          go_enter Try.func19, Try.ntmps19
          go_wp2_with (first | (go_at_call 25; refine (q.out _ (by (try simp only [ext_ext]); repeat (first | exact Bel.refl _ | assumption | refine bel_and ?_ _ | refine bel_drews ?_ _ | refine Bel.ext ?_ _ | refine Bel.alloc ?_ _ | refine Bel.drewN ?_ _))).mono ?_; rintro e _ ⟨rfl, nx, rfl⟩) | (go_at_call 67; refine (e1.out _).mono ?_; rintro e _ ⟨rfl, nx, rfl⟩) | (go_at_call 68; refine (q2.out _ (by (try simp only [ext_ext]); repeat (first | exact Bel.refl _ | assumption | refine bel_and ?_ _ | refine bel_drews ?_ _ | refine Bel.ext ?_ _ | refine Bel.alloc ?_ _ | refine Bel.drewN ?_ _))).mono ?_; rintro e _ ⟨rfl, nx, rfl⟩))
          (refine bodyPost_ret (v := .tuple #[.agg #[.slice none 0 0], .int .i64 (18)]) (by simp [results, Try.results19, go_sem]) rfl ?_; exact ⟨_, _, rfl, nil_ret (by (try simp only [ext_ext]); repeat (first | exact Bel.refl _ | assumption | refine bel_and ?_ _ | refine bel_drews ?_ _ | refine Bel.ext ?_ _ | refine Bel.alloc ?_ _ | refine Bel.drewN ?_ _))⟩)
        · have hk := lowB_le l p.id
          have HF : Hid (fieldPut l p = (l.take (lowB l p.id) ++ p :: l.drop (lowB l p.id), 0)) := Lib.hid (by simp [fieldPut, h, hp, hb, h0])
          rw [HF.out]
          simp only [put_len l _ p hk]
          obtain ⟨k, hkk⟩ : ∃ k, lowB l p.id = k := ⟨_, rfl⟩
          rw [hkk] at q2 hk ⊢
          have h0' : ((l.length : Int) == 64) = false := by rw [beq_eq_false_iff_ne]; omega
          have q3 := Lib.hid (fun W hb => clone_any A c l W (hs.bel (w' := W) hb) hn (by omega))
          clear h hp hb hinc hchk h0 hkk HF
          go_enter Try.func19, Try.ntmps19
          go_wp2_with (first | (go_at_call 25; refine (q.out _ (by (try simp only [ext_ext]); repeat (first | exact Bel.refl _ | assumption | refine bel_and ?_ _ | refine bel_drews ?_ _ | refine Bel.ext ?_ _ | refine Bel.alloc ?_ _ | refine Bel.drewN ?_ _))).mono ?_; rintro e _ ⟨rfl, nx, rfl⟩) | (go_at_call 67; refine (e1.out _).mono ?_; rintro e _ ⟨rfl, nx, rfl⟩) | (go_at_call 68; refine (q2.out _ (by (try simp only [ext_ext]); repeat (first | exact Bel.refl _ | assumption | refine bel_and ?_ _ | refine bel_drews ?_ _ | refine Bel.ext ?_ _ | refine Bel.alloc ?_ _ | refine Bel.drewN ?_ _))).mono ?_; rintro e _ ⟨rfl, nx, rfl⟩))
          obtain ⟨W0, hW0⟩ : ∃ W0, W0 = ((w.alloc (.cells #[.slice A l.length c] 24)).alloc (.cells #[.int .i64 p.id, .int .i64 p.a, .int .i64 p.b] 26)).alloc (.cells #[.slice none 0 0] 24) := ⟨_, rfl⟩
          have hb0 : Bel w W0 := by rw [hW0]; exact (by (try simp only [ext_ext]); repeat (first | exact Bel.refl _ | assumption | refine bel_and ?_ _ | refine bel_drews ?_ _ | refine Bel.ext ?_ _ | refine Bel.alloc ?_ _ | refine Bel.drewN ?_ _))
          have z0 : w.heap.size < W0.heap.size := by rw [hW0]; simp; try omega
          have z1 : w.heap.size + 1 < W0.heap.size := by rw [hW0]; simp; try omega
          have z2 : w.heap.size + 2 < W0.heap.size := by rw [hW0]; simp; try omega
          have f0 : W0.cell? ⟨w.heap.size, 0, none⟩ = some (.slice A l.length c) := by rw [hW0]; simp [go_sem]
          have f1 : W0.cell? ⟨w.heap.size + 1, 0, none⟩ = some (.int .i64 p.id) ∧ W0.cell? ⟨w.heap.size + 1, 1, none⟩ = some (.int .i64 p.a) ∧ W0.cell? ⟨w.heap.size + 1, 2, none⟩ = some (.int .i64 p.b) := by rw [hW0]; simp [go_sem]
          have f2 : W0.cell? ⟨w.heap.size + 2, 0, none⟩ = some (.slice none 0 0) := by rw [hW0]; simp [go_sem]
          obtain ⟨g0, g1, g2⟩ := f1
          have f3 : W0.frozen? ⟨w.heap.size + 2, 0, none⟩ = false := by rw [hW0]; simp [go_sem]
          rw [← hW0]; clear hW0
          go_region_held3 (fun w' => w'.cell? ⟨w.heap.size, 0, none⟩ = some (.slice A l.length c) ∧ w'.cell? ⟨w.heap.size + 1, 0, none⟩ = some (.int .i64 p.id) ∧ w'.cell? ⟨w.heap.size + 1, 1, none⟩ = some (.int .i64 p.a) ∧ w'.cell? ⟨w.heap.size + 1, 2, none⟩ = some (.int .i64 p.b)) (simp [go_sem, *]) (first | (go_at_call 70; refine (q3.out _ (by (try simp only [ext_ext]); repeat (first | exact Bel.refl _ | assumption | refine bel_and ?_ _ | refine bel_drews ?_ _ | refine Bel.ext ?_ _ | refine Bel.alloc ?_ _ | refine Bel.drewN ?_ _))).mono ?_; rintro e _ ⟨A2, c2, rfl, x2, rfl, own2⟩; (try simp only [ext_ext, drew_ext, drewN_ext] at own2)) | (go_at_call 69; first | ((with_reducible refine (insert_callA (W0 := W0) own2 (by (try simp only [ext_ext]); repeat (first | exact Bel.refl _ | assumption | refine bel_and ?_ _ | refine bel_drews ?_ _ | refine Bel.ext ?_ _ | refine Bel.alloc ?_ _ | refine Bel.drewN ?_ _)) (by (try simp only [ext_ext]); repeat (first | exact Bel.refl _ | assumption | refine bel_and ?_ _ | refine bel_drews ?_ _ | refine Bel.ext ?_ _ | refine Bel.alloc ?_ _ | refine Bel.drewN ?_ _)) (by simp [go_sem]) (by simp [go_sem]) (by omega) hk).mono ?_); rintro e _ ⟨A3, c3, rfl, x3, rfl, own3⟩) | ((with_reducible refine (insert_callB (W0 := W0) own2 (by (try simp only [ext_ext]); repeat (first | exact Bel.refl _ | assumption | refine bel_and ?_ _ | refine bel_drews ?_ _ | refine Bel.ext ?_ _ | refine Bel.alloc ?_ _ | refine Bel.drewN ?_ _)) (by simp [go_sem]) (by simp [go_sem]) (by omega) hk).mono ?_); rintro e _ ⟨A3, c3, rfl, x3, rfl, own3⟩)))
          all_goals
            go_wp2
            have hbc : Bel w (W0.setCell ⟨w.heap.size + 1 + 1, 0, none⟩ (.slice A3 (l.length + 1) c3)) := hb0.setCell (p := ⟨w.heap.size + 1 + 1, 0, none⟩) (by show w.heap.size ≤ w.heap.size + 1 + 1; omega) _
            have hcl : (ext (W0.setCell ⟨w.heap.size + 1 + 1, 0, none⟩ (.slice A3 (l.length + 1) c3)) x3).cell? ⟨w.heap.size + 1 + 1, 0, none⟩ = some (.slice A3 (l.length + 1) c3) := by
              rw [cell_ext _ _ _ _ (by simp; omega)]; exact World.cell?_setCell_same _ _ _ f2
            refine bodyPost_ret (v := .tuple #[.agg #[.slice A3 (l.length + 1) c3], .int .i64 0]) (by simp [results, Try.results19, go_sem, hcl]) rfl ?_
            exact ⟨_, _, rfl, own_ret (hbc.ext _) (own_swap (by simp [go_sem]) own3 (Nat.le_refl _)) (Bel.refl _) (by omega)⟩
    · have e1 := Lib.hid (pchk_lit p 8 hp)
      have HF : Hid (fieldPut l p = ([], 8)) := Lib.hid (by simp [fieldPut, h, hp])
      rw [HF.out]
      clear h hp hinc hchk
      go_enter Try.func19, Try.ntmps19
      go_wp2_with (first | (go_at_call 25; refine (q.out _ (by (try simp only [ext_ext]); repeat (first | exact Bel.refl _ | assumption | refine bel_and ?_ _ | refine bel_drews ?_ _ | refine Bel.ext ?_ _ | refine Bel.alloc ?_ _ | refine Bel.drewN ?_ _))).mono ?_; rintro e _ ⟨rfl, nx, rfl⟩) | (go_at_call 67; refine (e1.out _).mono ?_; rintro e _ ⟨rfl, nx, rfl⟩))
      (refine bodyPost_ret (v := .tuple #[.agg #[.slice none 0 0], .int .i64 (8)]) (by simp [results, Try.results19, go_sem]) rfl ?_; exact ⟨_, _, rfl, nil_ret (by (try simp only [ext_ext]); repeat (first | exact Bel.refl _ | assumption | refine bel_and ?_ _ | refine bel_drews ?_ _ | refine Bel.ext ?_ _ | refine Bel.alloc ?_ _ | refine Bel.drewN ?_ _))⟩)
  · have HF : Hid (fieldPut l p = ([], fieldChk l)) := Lib.hid (by simp [fieldPut, h])
    have hz : (fieldChk l == 0) = false := by simpa using h
    have hz' : (fieldChk l != 0) = true := by simpa using h
    rw [HF.out]
    clear h
    go_enter Try.func19, Try.ntmps19
    go_wp2_with ((go_at_call 25; refine (q.out _ (by (try simp only [ext_ext]); repeat (first | exact Bel.refl _ | assumption | refine bel_and ?_ _ | refine bel_drews ?_ _ | refine Bel.ext ?_ _ | refine Bel.alloc ?_ _ | refine Bel.drewN ?_ _))).mono ?_; rintro e _ ⟨rfl, nx, rfl⟩))
    (refine bodyPost_ret (v := .tuple #[.agg #[.slice none 0 0], .int .i64 ((fieldChk l))]) (by simp [results, Try.results19, go_sem]) rfl ?_; exact ⟨_, _, rfl, nil_ret (by (try simp only [ext_ext]); repeat (first | exact Bel.refl _ | assumption | refine bel_and ?_ _ | refine bel_drews ?_ _ | refine Bel.ext ?_ _ | refine Bel.alloc ?_ _ | refine Bel.drewN ?_ _))⟩)
end Go.Proofs.Ytkcpnclgcmnlcaa


namespace Go.Proofs.Ytkcpnclgcmnlcaa
open Go.RowKit Go.Pel Go.IntWalk
theorem vp_set (l : List Pt) (k : Nat) (p : Pt) : vp (l.set k p) = ((vp l).set (k * 3) (.int .i64 p.id) |>.set (k * 3 + 1) (.int .i64 p.a) |>.set (k * 3 + 2) (.int .i64 p.b)) := by
  induction l generalizing k with
  | nil => simp [vp]
  | cons x l ih =>
    cases k with
    | zero => simp [vp, Pt.cells]
    | succ k =>
      have h := ih k
      unfold vp at h ⊢
      rw [List.set_cons_succ, List.flatMap_cons, h, List.flatMap_cons]
      have e : (k + 1) * 3 = k * 3 + 3 := by omega
      rw [e]
      simp [Pt.cells]
set_option maxRecDepth 10000 in
set_option maxHeartbeats 2000000 in
theorem fieldChange_any (A : Option Addr) (c : Nat) (l : List Pt) (p : Pt) (w : World) (hs : Sl w 3 A l.length c (vp l)) (hn : A = none → c = 0) :
    Calls Try.prog 23 #[.agg #[.slice A l.length c], .agg #[.int .i64 p.id, .int .i64 p.a, .int .i64 p.b]] w fun e w' => ∃ A' c', e = .returned (.tuple #[.agg #[.slice A' (fieldChange l p).1.length c'], .int .i64 (fieldChange l p).2]) ∧ ∃ x, w' = ext w x ∧ Own (ext w x) w.heap.size 26 3 A' (fieldChange l p).1.length c' (vp (fieldChange l p).1) := by
  have q := Lib.hid (fun W hb => fieldCheck_any A c l W (hs.bel (w' := W) hb))
  have q2 := Lib.hid (fun W hb => place_any A c l p.id W (hs.bel (w' := W) hb))
  by_cases h : fieldChk l = 0
  · rw [h] at q
    obtain ⟨h64, hchk, hinc⟩ := fieldChk_zero h
    rcases pt_cases p with hp | hp
    · have e1 := Lib.hid (pchk_lit p 0 hp)
      cases hb : hasB l p.id with
      | true =>
        obtain ⟨h4, q0, hp0, h5⟩ := atI_low hinc hb
        have hlt : lowB l p.id < l.length := (List.getElem?_eq_some_iff.1 hp0).1
        have HF : Hid (fieldChange l p = (l.set (lowB l p.id) p, 0)) := Lib.hid (by simp [fieldChange, h, hp, hb])
        have hP : fieldPlace l p.id = ((lowB l p.id : Int), 0) := by simp [fieldPlace, h, hb]
        rw [hP] at q2
        rw [HF.out]
        simp only [List.length_set]
        rw [vp_set]
        obtain ⟨k, hk⟩ : ∃ k, lowB l p.id = k := ⟨_, rfl⟩
        rw [hk] at q2 hlt ⊢
        have hlt' : (k : Int) < (l.length : Int) := by omega
        have HQ : Hid ((vp l)[k * 3]? = some (.int .i64 q0.id) ∧ (vp l)[k * 3 + 1]? = some (.int .i64 q0.a) ∧ (vp l)[k * 3 + 2]? = some (.int .i64 q0.b)) := Lib.hid ⟨by have := fl_at pt_len hp0 0 (by omega); rw [hk] at this; exact this, by have := fl_at pt_len hp0 1 (by omega); rw [hk] at this; exact this, by have := fl_at pt_len hp0 2 (by omega); rw [hk] at this; exact this⟩
        have q3 := Lib.hid (fun W hb => clone_any A c l W (hs.bel (w' := W) hb) hn (by omega))
        clear h hp hb hinc hchk hP hk h4 h5 hp0 HF
        go_enter Try.func23, Try.ntmps23
        go_wp2_with (first | (go_at_call 25; refine (q.out _ (by (try simp only [ext_ext]); repeat (first | exact Bel.refl _ | assumption | refine bel_and ?_ _ | refine bel_drews ?_ _ | refine Bel.ext ?_ _ | refine Bel.alloc ?_ _ | refine Bel.drewN ?_ _))).mono ?_; rintro e _ ⟨rfl, nx, rfl⟩) | (go_at_call 67; refine (e1.out _).mono ?_; rintro e _ ⟨rfl, nx, rfl⟩) | (go_at_call 65; refine (q2.out _ (by (try simp only [ext_ext]); repeat (first | exact Bel.refl _ | assumption | refine bel_and ?_ _ | refine bel_drews ?_ _ | refine Bel.ext ?_ _ | refine Bel.alloc ?_ _ | refine Bel.drewN ?_ _))).mono ?_; rintro e _ ⟨rfl, nx, rfl⟩))
        refine (q3.out _ (by (try simp only [ext_ext]); repeat (first | exact Bel.refl _ | assumption | refine bel_and ?_ _ | refine bel_drews ?_ _ | refine Bel.ext ?_ _ | refine Bel.alloc ?_ _ | refine Bel.drewN ?_ _))).mono ?_
        rintro e _ ⟨A2, c2, rfl, x2, rfl, own2⟩
        obtain ⟨a, rfl⟩ : ∃ a, A2 = some ⟨a, 0, none⟩ := by
          rcases own2.row with ⟨_, h0, _⟩ | ⟨a, cur, h0, _⟩
          · omega
          · exact ⟨a, h0⟩
        have HG : Hid (w.heap.size + 1 + 1 + 1 ≤ a) := Lib.hid (by
          rcases own2.row with ⟨h, _⟩ | ⟨a', cur, h, hr, _⟩
          · cases h
          · have e1 : a = a' := by injection h with h; injection h
            have := hr.1
            simp [go_sem] at this
            omega)
        simp only [ext_ext] at own2 ⊢
        generalize hZ : (((_ : Beyond).and _).and _).and x2 = Z at own2 ⊢
        obtain ⟨W2, hW2⟩ : ∃ W2, ext (((w.alloc (.cells #[.slice A l.length c] 24)).alloc (.cells #[.int .i64 p.id, .int .i64 p.a, .int .i64 p.b] 26)).alloc (.cells #[.slice none 0 0] 24)) Z = W2 := ⟨_, rfl⟩
        rw [hW2] at own2 ⊢
        have hb2 : Bel w W2 := by rw [← hW2]; exact (by (try simp only [ext_ext]); repeat (first | exact Bel.refl _ | assumption | refine bel_and ?_ _ | refine bel_drews ?_ _ | refine Bel.ext ?_ _ | refine Bel.alloc ?_ _ | refine Bel.drewN ?_ _))
        have s0 : w.heap.size < W2.heap.size := by rw [← hW2]; simp [go_sem]
        have s1 : w.heap.size + 1 < W2.heap.size := by rw [← hW2]; simp [go_sem]
        have s2 : w.heap.size + 2 < W2.heap.size := by rw [← hW2]; simp [go_sem]
        have f1 : W2.cell? ⟨w.heap.size + 1, 0, none⟩ = some (.int .i64 p.id) ∧ W2.cell? ⟨w.heap.size + 1, 1, none⟩ = some (.int .i64 p.a) ∧ W2.cell? ⟨w.heap.size + 1, 2, none⟩ = some (.int .i64 p.b) := by rw [← hW2]; simp [go_sem]
        have f2 : W2.cell? ⟨w.heap.size + 1 + 1, 0, none⟩ = some (.slice none 0 0) := by rw [← hW2]; simp [go_sem]
        have f3 : W2.frozen? ⟨w.heap.size + 1 + 1, 0, none⟩ = false := by rw [← hW2]; simp [go_sem]
        obtain ⟨g0, g1, g2⟩ := f1
        have b0 := own_cell own2 (j := k * 3) (u := .int .i64 q0.id) HQ.out.1
        have b1 := own_cell own2 (j := k * 3 + 1) (u := .int .i64 q0.a) HQ.out.2.1
        have b2 := own_cell own2 (j := k * 3 + 2) (u := .int .i64 q0.b) HQ.out.2.2
        have z0 := own_frozen own2 (k * 3)
        have z1 := own_frozen own2 (k * 3 + 1)
        have z2 := own_frozen own2 (k * 3 + 2)
        have hne1 : w.heap.size + 1 ≠ a := by have := HG.out; omega
        have hne2 : w.heap.size + 1 + 1 ≠ a := by have := HG.out; omega
        have hne3 : ¬ a = w.heap.size + 1 + 1 := by have := HG.out; omega
        clear hW2 hZ
        go_wp2
        have o1 := (World.ownsRow.stored own2 (k * 3) (.int .i64 p.id)).1
        have o2 := (World.ownsRow.stored o1 (k * 3 + 1) (.int .i64 p.a)).1
        have o3 := (World.ownsRow.stored o2 (k * 3 + 2) (.int .i64 p.b)).1
        have o4 := own_other (b := w.heap.size + 1 + 1) (o := 0) o3 (.slice (some ⟨a, 0, none⟩) l.length c2) (fun g h => block_ne hne2 h)
        have hga := HG.out
        have hb3 := (((hb2.setCell (p := ⟨a, k * 3, none⟩) (by show w.heap.size ≤ a; omega) (.int .i64 p.id)).setCell (p := ⟨a, k * 3 + 1, none⟩) (by show w.heap.size ≤ a; omega) (.int .i64 p.a)).setCell (p := ⟨a, k * 3 + 2, none⟩) (by show w.heap.size ≤ a; omega) (.int .i64 p.b)).setCell (p := ⟨w.heap.size + 1 + 1, 0, none⟩) (by show w.heap.size ≤ w.heap.size + 1 + 1; omega) (.slice (some ⟨a, 0, none⟩) l.length c2)
        refine bodyPost_ret (v := .tuple #[.agg #[.slice (some ⟨a, 0, none⟩) l.length c2], .int .i64 0]) (by simp [results, Try.results23, go_sem, *]) rfl ?_
        exact ⟨_, _, rfl, own_ret hb3 o4 (Bel.refl _) (by simp [go_sem]; try omega)⟩
      | false =>
        have HF : Hid (fieldChange l p = ([], 6)) := Lib.hid (by simp [fieldChange, h, hp, hb])
        have hP : fieldPlace l p.id = (0, 6) := by simp [fieldPlace, h, hb]
        rw [hP] at q2
        rw [HF.out]
        clear h hp hb hinc hchk hP
        go_enter Try.func23, Try.ntmps23
        go_wp2_with (first | (go_at_call 25; refine (q.out _ (by (try simp only [ext_ext]); repeat (first | exact Bel.refl _ | assumption | refine bel_and ?_ _ | refine bel_drews ?_ _ | refine Bel.ext ?_ _ | refine Bel.alloc ?_ _ | refine Bel.drewN ?_ _))).mono ?_; rintro e _ ⟨rfl, nx, rfl⟩) | (go_at_call 67; refine (e1.out _).mono ?_; rintro e _ ⟨rfl, nx, rfl⟩) | (go_at_call 65; refine (q2.out _ (by (try simp only [ext_ext]); repeat (first | exact Bel.refl _ | assumption | refine bel_and ?_ _ | refine bel_drews ?_ _ | refine Bel.ext ?_ _ | refine Bel.alloc ?_ _ | refine Bel.drewN ?_ _))).mono ?_; rintro e _ ⟨rfl, nx, rfl⟩))
        (refine bodyPost_ret (v := .tuple #[.agg #[.slice none 0 0], .int .i64 (6)]) (by simp [results, Try.results23, go_sem]) rfl ?_; exact ⟨_, _, rfl, nil_ret (by (try simp only [ext_ext]); repeat (first | exact Bel.refl _ | assumption | refine bel_and ?_ _ | refine bel_drews ?_ _ | refine Bel.ext ?_ _ | refine Bel.alloc ?_ _ | refine Bel.drewN ?_ _))⟩)
    · have e1 := Lib.hid (pchk_lit p 8 hp)
      have HF : Hid (fieldChange l p = ([], 8)) := Lib.hid (by simp [fieldChange, h, hp])
      rw [HF.out]
      clear h hp hinc hchk
      go_enter Try.func23, Try.ntmps23
      go_wp2_with (first | (go_at_call 25; refine (q.out _ (by (try simp only [ext_ext]); repeat (first | exact Bel.refl _ | assumption | refine bel_and ?_ _ | refine bel_drews ?_ _ | refine Bel.ext ?_ _ | refine Bel.alloc ?_ _ | refine Bel.drewN ?_ _))).mono ?_; rintro e _ ⟨rfl, nx, rfl⟩) | (go_at_call 67; refine (e1.out _).mono ?_; rintro e _ ⟨rfl, nx, rfl⟩))
      (refine bodyPost_ret (v := .tuple #[.agg #[.slice none 0 0], .int .i64 (8)]) (by simp [results, Try.results23, go_sem]) rfl ?_; exact ⟨_, _, rfl, nil_ret (by (try simp only [ext_ext]); repeat (first | exact Bel.refl _ | assumption | refine bel_and ?_ _ | refine bel_drews ?_ _ | refine Bel.ext ?_ _ | refine Bel.alloc ?_ _ | refine Bel.drewN ?_ _))⟩)
  · have HF : Hid (fieldChange l p = ([], fieldChk l)) := Lib.hid (by simp [fieldChange, h])
    have hz : (fieldChk l == 0) = false := by simpa using h
    have hz' : (fieldChk l != 0) = true := by simpa using h
    rw [HF.out]
    clear h
    go_enter Try.func23, Try.ntmps23
    go_wp2_with ((go_at_call 25; refine (q.out _ (by (try simp only [ext_ext]); repeat (first | exact Bel.refl _ | assumption | refine bel_and ?_ _ | refine bel_drews ?_ _ | refine Bel.ext ?_ _ | refine Bel.alloc ?_ _ | refine Bel.drewN ?_ _))).mono ?_; rintro e _ ⟨rfl, nx, rfl⟩))
    (refine bodyPost_ret (v := .tuple #[.agg #[.slice none 0 0], .int .i64 ((fieldChk l))]) (by simp [results, Try.results23, go_sem]) rfl ?_; exact ⟨_, _, rfl, nil_ret (by (try simp only [ext_ext]); repeat (first | exact Bel.refl _ | assumption | refine bel_and ?_ _ | refine bel_drews ?_ _ | refine Bel.ext ?_ _ | refine Bel.alloc ?_ _ | refine Bel.drewN ?_ _))⟩)
set_option maxHeartbeats 400000 in
theorem fieldNew_any (w : World) : Calls Try.prog 28 #[] w fun e w' => e = .returned (.agg #[.slice none 0 0]) ∧ ∃ x, w' = ext w x := by
  go_enter Try.func28, Try.ntmps28
  go_wp2
  exact bodyPost_ret (v := .agg #[.slice none 0 0]) (by simp [results, Try.results28, go_sem]) rfl ⟨by rfl, ext_of (by (try simp only [ext_ext]); repeat (first | exact Bel.refl _ | assumption | refine bel_and ?_ _ | refine bel_drews ?_ _ | refine Bel.ext ?_ _ | refine Bel.alloc ?_ _ | refine Bel.drewN ?_ _))⟩
end Go.Proofs.Ytkcpnclgcmnlcaa
