/- What the functions that decide on validity return: the rest of layers 1 and 2. -/
import Derived.Test.YtkcpnclgcmnlcaaNum
set_option linter.unusedSimpArgs false
set_option linter.unusedVariables false
namespace Go.Proofs.Ytkcpnclgcmnlcaa
open Go.RowKit Go.Pel
set_option maxHeartbeats 400000 in
theorem ref01Check_any (n d : Int) (w : World) (hn : -9223372036854775808 ≤ n ∧ n ≤ 9223372036854775807) (hd : -9223372036854775808 ≤ d ∧ d ≤ 9223372036854775807) :
    Calls Try.prog 89 #[.agg #[.int .i64 n, .int .i64 d]] w fun e w' => e = .returned (.int .i64 (ratioChk n d)) ∧ ∃ x, w' = ext w x := by
  obtain ⟨hn1, hn2⟩ := hn; obtain ⟨hd1, hd2⟩ := hd
  by_cases c1 : d < 1
  · have e1 := Lib.hid (ratioChk_low (n := n) c1)
    go_enter Try.func89, Try.ntmps89
    go_wp2
    ((first | refine RegC.wp_region_ext1 (by kernel_rfl) (by kernel_rfl) ?_ | refine RegC.wp_region_ext0 (by kernel_rfl) (by kernel_rfl) ?_); (repeat (any_goals (first | go_big_quiet_step (fail) | (refine RegC.wpQuiet_split rfl rfl (fun hb => ?_) (fun hb => ?_) <;> simp only [hb])))); all_goals (refine wpQuiet_nil ?_; rintro _ ⟨nq, rfl⟩))
    go_wp2
    (go_ret; exact ⟨ret_int (by exact e1.out.symm), ext_of (by (try simp only [ext_ext]); repeat (first | exact Bel.refl _ | assumption | refine bel_and ?_ _ | refine bel_drews ?_ _ | refine Bel.ext ?_ _ | refine Bel.alloc ?_ _ | refine Bel.drewN ?_ _))⟩)
  · have c1' : decide (d < 1) = false := by simpa using c1
    by_cases c2 : n = -9223372036854775808
    · subst c2
      go_enter Try.func89, Try.ntmps89
      go_wp2
      ((first | refine RegC.wp_region_ext1 (by kernel_rfl) (by kernel_rfl) ?_ | refine RegC.wp_region_ext0 (by kernel_rfl) (by kernel_rfl) ?_); (repeat (any_goals (first | go_big_quiet_step (fail) | (refine RegC.wpQuiet_split rfl rfl (fun hb => ?_) (fun hb => ?_) <;> simp only [hb])))); all_goals (refine wpQuiet_nil ?_; rintro _ ⟨nq, rfl⟩))
      go_wp2
      (go_ret; exact ⟨ret_int (by exact ratioChk_min.symm), ext_of (by (try simp only [ext_ext]); repeat (first | exact Bel.refl _ | assumption | refine bel_and ?_ _ | refine bel_drews ?_ _ | refine Bel.ext ?_ _ | refine Bel.alloc ?_ _ | refine Bel.drewN ?_ _))⟩)
    · have c2' : (n == -9223372036854775808) = false := by simpa using c2
      have E1 := Lib.hid (ratioChk_one (n := n) (d := d) (by omega) c2)
      have E2 := Lib.hid (ratioChk_more (n := n) (d := d))
      obtain ⟨dn, rfl⟩ : ∃ dn : Nat, d = dn := ⟨d.toNat, by omega⟩
      go_enter Try.func89, Try.ntmps89
      go_wp2
      ((first | refine RegC.wp_region_ext1 (by kernel_rfl) (by kernel_rfl) ?_ | refine RegC.wp_region_ext0 (by kernel_rfl) (by kernel_rfl) ?_); (repeat (any_goals (first | go_big_quiet_step (first | (go_at_call 112; first | exact Calls.ext_of1 (size_any _ _ (by omega)) | exact Calls.ext_of (size_any _ _ (by omega))) | (go_at_call 111; first | exact Calls.ext_of1 (common_any _ _ _ (by omega) (by omega)) | exact Calls.ext_of (common_any _ _ _ (by omega) (by omega)))) | (refine RegC.wpQuiet_split rfl rfl (fun hb => ?_) (fun hb => ?_) <;> simp only [hb])))); all_goals (refine wpQuiet_nil ?_; rintro _ ⟨nq, rfl⟩))
      go_wp2
      all_goals (go_ret; exact ⟨ret_int (by first | exact (E2.out (by rw [Int.toNat_natCast, Nat.gcd_comm]; (first | omega | (simp only [bne_iff_ne, ne_eq, bne_eq_false_iff_eq, beq_iff_eq, beq_eq_false_iff_ne, decide_eq_true_eq, decide_eq_false_iff_not, Bool.or_eq_true, Bool.and_eq_true, Bool.not_eq_true, Bool.not_eq_true', Bool.not_eq_false'] at *; omega)))).symm | exact (E1.out (by rw [Int.toNat_natCast, Nat.gcd_comm]; (first | omega | (simp only [bne_iff_ne, ne_eq, bne_eq_false_iff_eq, beq_iff_eq, beq_eq_false_iff_ne, decide_eq_true_eq, decide_eq_false_iff_not, Bool.or_eq_true, Bool.and_eq_true, Bool.not_eq_true, Bool.not_eq_true', Bool.not_eq_false'] at *; omega)))).symm), ext_of (by (try simp only [ext_ext]); repeat (first | exact Bel.refl _ | assumption | refine bel_and ?_ _ | refine bel_drews ?_ _ | refine Bel.ext ?_ _ | refine Bel.alloc ?_ _ | refine Bel.drewN ?_ _))⟩)


set_option maxHeartbeats 400000 in
theorem far_any (n : Int) (w : World) : Calls Try.prog 96 #[.int .i64 n] w fun e w' => e = .returned (.bool (far n)) ∧ ∃ x, w' = ext w x := by
  go_enter Try.func96, Try.ntmps96
  go_wp2
  all_goals (go_ret; exact ⟨ret_bool (by first | exact (far_eq _).symm | (rw [far_eq]; simp [*]; done) | (rw [far_eq]; simp; omega)), ext_of (by (try simp only [ext_ext]); repeat (first | exact Bel.refl _ | assumption | refine bel_and ?_ _ | refine bel_drews ?_ _ | refine Bel.ext ?_ _ | refine Bel.alloc ?_ _ | refine Bel.drewN ?_ _))⟩)

set_option maxHeartbeats 400000 in
theorem courseCheck_any (i a b : Int) (w : World) :
    Calls Try.prog 67 #[.agg #[.int .i64 i, .int .i64 a, .int .i64 b]] w fun e w' => e = .returned (.int .i64 (pointChk i a b)) ∧ ∃ x, w' = ext w x := by
  have E1 := Lib.hid (pointChk_yes (i := i) (a := a) (b := b))
  have E2 := Lib.hid (pointChk_no (i := i) (a := a) (b := b))
  go_enter Try.func67, Try.ntmps67
  go_wp2_with (first | (go_at_call 96; refine (far_any _ _).mono ?_; rintro e _ ⟨rfl, nx, rfl⟩))
  all_goals (go_ret; exact ⟨ret_int (by (try simp only [far_iff, far_iff_false] at *); first | exact (E2.out (by omega)).symm | exact (E1.out (by omega)).symm), ext_of (by (try simp only [ext_ext]); repeat (first | exact Bel.refl _ | assumption | refine bel_and ?_ _ | refine bel_drews ?_ _ | refine Bel.ext ?_ _ | refine Bel.alloc ?_ _ | refine Bel.drewN ?_ _))⟩)

set_option maxHeartbeats 400000 in
theorem ref02Check_any (i a b : Int) (w : World) :
    Calls Try.prog 61 #[.agg #[.int .i64 i, .int .i64 a, .int .i64 b]] w fun e w' => e = .returned (.int .i64 (pointChk i a b)) ∧ ∃ x, w' = ext w x := by
  have E1 := Lib.hid (pointChk_yes (i := i) (a := a) (b := b))
  have E2 := Lib.hid (pointChk_no (i := i) (a := a) (b := b))
  go_enter Try.func61, Try.ntmps61
  go_wp2
  all_goals (go_ret; exact ⟨ret_int (by first | exact (E1.out (by omega)).symm | exact (E2.out (by omega)).symm), ext_of (by (try simp only [ext_ext]); repeat (first | exact Bel.refl _ | assumption | refine bel_and ?_ _ | refine bel_drews ?_ _ | refine Bel.ext ?_ _ | refine Bel.alloc ?_ _ | refine Bel.drewN ?_ _))⟩)
end Go.Proofs.Ytkcpnclgcmnlcaa
