/- What the functions of layers 1 and 2 (package ratio, package course, and their references) that decide on validity return, each walked once. -/
import Derived.Test.YtkcpnclgcmnlcaaRows
import Derived.Test.YtkcpnclgcmnlcaaRegC
import Derived.Test.YtkcpnclgcmnlcaaSpec1
set_option linter.unusedSimpArgs false
set_option linter.unusedVariables false
namespace Go.Proofs.Ytkcpnclgcmnlcaa
open Go.RowKit Go.Pel
theorem ret_int {k : IntKind} {a b : Int} (h : a = b) : Ending.returned (.int k a) = .returned (.int k b) := by rw [h]
theorem ret_bool {a b : Bool} (h : a = b) : Ending.returned (.bool a) = .returned (.bool b) := by rw [h]

set_option maxHeartbeats 400000 in
theorem abs_any (n : Int) (w : World) (h : -9223372036854775808 ≤ n ∧ n ≤ 9223372036854775807) :
    Calls Try.prog 122 #[.int .i64 n] w fun e w' => e = .returned (.int .u64 n.natAbs) ∧ ∃ x, w' = ext w x := by
  obtain ⟨h1, h2⟩ := h
  go_enter Try.func122, Try.ntmps122
  go_wp2
  all_goals (go_ret; exact ⟨ret_int (by first | (simp only [IntKind.wrap_u64]; omega) | omega), ext_of (Bel.refl _)⟩)

set_option maxHeartbeats 400000 in
theorem size_any (n : Int) (w : World) (h : -9223372036854775808 ≤ n ∧ n ≤ 9223372036854775807) :
    Calls Try.prog 112 #[.int .i64 n] w fun e w' => e = .returned (.int .u64 n.natAbs) ∧ ∃ x, w' = ext w x := by
  obtain ⟨h1, h2⟩ := h
  go_enter Try.func112, Try.ntmps112
  go_wp2
  all_goals (go_ret; exact ⟨ret_int (by first | (simp only [IntKind.wrap_u64]; omega) | omega), ext_of (Bel.refl _)⟩)

set_option maxHeartbeats 400000 in
theorem gcd_any (a b : Nat) (w : World) (ha : a < 18446744073709551616) (hb : b < 18446744073709551616) :
    Calls Try.prog 121 #[.int .u64 a, .int .u64 b] w fun e w' => e = .returned (.int .u64 (Nat.gcd a b)) ∧ ∃ x, w' = ext w x := by
  go_enter Try.func121, Try.ntmps121
  go_wp2
  go_loopw [0,1] (fun x y wr => ∃ x0 y0 : Nat, x = .int .u64 x0 ∧ y = .int .u64 y0 ∧ x0 < 18446744073709551616 ∧ y0 < 18446744073709551616 ∧ Nat.gcd x0 y0 = Nat.gcd a b ∧ ∃ x, wr = ext w x) (fun _ y _ => (intOf y).toNat)
  case atStart => exact ⟨a, b, rfl, rfl, ha, hb, rfl, ext_of (Bel.refl _)⟩
  case round =>
    obtain ⟨x0, y0, rfl, rfl, hx, hy, hg, x, rfl⟩ := hrel
    have HG := Lib.hid hg; clear hg
    by_cases hlt : 0 < y0
    · go_wp2
      ((first | refine RegC.wp_region_ext1 (by kernel_rfl) (by kernel_rfl) ?_ | refine RegC.wp_region_ext0 (by kernel_rfl) (by kernel_rfl) ?_); (repeat (any_goals (first | go_big_quiet_step (fail) | (refine RegC.wpQuiet_split rfl rfl (fun hb => ?_) (fun hb => ?_) <;> simp only [hb])))); all_goals (refine wpQuiet_nil ?_; rintro _ ⟨nq, rfl⟩))
      go_wp2
      go_roundw
      case rel => exact ⟨y0, x0 % y0, rfl, by simp, hy, Nat.lt_of_lt_of_le (Nat.mod_lt _ hlt) (by omega), by rw [← HG.out, Nat.gcd_comm x0 y0, Nat.gcd_rec y0 x0, Nat.gcd_comm], _, rfl⟩
      case measure => simp [intOf]; exact Nat.mod_lt _ hlt
    · go_wp2
      go_ret
      obtain rfl : y0 = 0 := by omega
      exact ⟨ret_int (by rw [← HG.out]; simp), _, rfl⟩

set_option maxHeartbeats 400000 in
theorem common_any (a b : Nat) (w : World) (ha : a < 18446744073709551616) (hb : b < 18446744073709551616) :
    Calls Try.prog 111 #[.int .u64 a, .int .u64 b] w fun e w' => e = .returned (.int .u64 (Nat.gcd a b)) ∧ ∃ x, w' = ext w x := by
  go_enter Try.func111, Try.ntmps111
  go_wp2
  go_loopw [0,1] (fun x y wr => ∃ x0 y0 : Nat, x = .int .u64 x0 ∧ y = .int .u64 y0 ∧ x0 < 18446744073709551616 ∧ y0 < 18446744073709551616 ∧ Nat.gcd x0 y0 = Nat.gcd a b ∧ ∃ x, wr = ext w x) (fun _ y _ => (intOf y).toNat)
  case atStart => exact ⟨a, b, rfl, rfl, ha, hb, rfl, ext_of (Bel.refl _)⟩
  case round =>
    obtain ⟨x0, y0, rfl, rfl, hx, hy, hg, x, rfl⟩ := hrel
    have HG := Lib.hid hg; clear hg
    by_cases hlt : 0 < y0
    · have hn : ((y0 : Int) != 0) = true := by rw [bne_iff_ne]; omega
      go_wp2
      ((first | refine RegC.wp_region_ext1 (by kernel_rfl) (by kernel_rfl) ?_ | refine RegC.wp_region_ext0 (by kernel_rfl) (by kernel_rfl) ?_); (repeat (any_goals (first | go_big_quiet_step (fail) | (refine RegC.wpQuiet_split rfl rfl (fun hb => ?_) (fun hb => ?_) <;> simp only [hb])))); all_goals (refine wpQuiet_nil ?_; rintro _ ⟨nq, rfl⟩))
      go_wp2
      go_roundw
      case rel => exact ⟨y0, x0 % y0, rfl, by simp, hy, Nat.lt_of_lt_of_le (Nat.mod_lt _ hlt) (by omega), by rw [← HG.out, Nat.gcd_comm x0 y0, Nat.gcd_rec y0 x0, Nat.gcd_comm], _, rfl⟩
      case measure => simp [intOf]; exact Nat.mod_lt _ hlt
    · obtain rfl : y0 = 0 := by omega
      go_wp2
      go_ret
      exact ⟨ret_int (by rw [← HG.out]; simp), _, rfl⟩

set_option maxHeartbeats 400000 in
theorem ratioCheck_any (n d : Int) (w : World) (h : -9223372036854775808 ≤ n ∧ n ≤ 9223372036854775807) (h' : -9223372036854775808 ≤ d ∧ d ≤ 9223372036854775807) :
    Calls Try.prog 102 #[.agg #[.int .i64 n, .int .i64 d]] w fun e w' => e = .returned (.int .i64 (ratioChk n d)) ∧ ∃ x, w' = ext w x := by
  obtain ⟨h1, h2⟩ := h
  obtain ⟨h3, h4⟩ := h'
  by_cases c1 : d < 1
  · have e1 := Lib.hid (ratioChk_low (n := n) c1)
    go_enter Try.func102, Try.ntmps102
    go_wp2
    ((first | refine RegC.wp_region_ext1 (by kernel_rfl) (by kernel_rfl) ?_ | refine RegC.wp_region_ext0 (by kernel_rfl) (by kernel_rfl) ?_); (repeat (any_goals (first | go_big_quiet_step (fail) | (refine RegC.wpQuiet_split rfl rfl (fun hb => ?_) (fun hb => ?_) <;> simp only [hb])))); all_goals (refine wpQuiet_nil ?_; rintro _ ⟨nq, rfl⟩))
    go_wp2
    go_ret
    exact ⟨ret_int e1.out.symm, ext_of (((Bel.refl _).alloc _).ext _)⟩
  · have c1' : decide (d < 1) = false := by simpa using c1
    by_cases c2 : n = -9223372036854775808
    · subst c2
      go_enter Try.func102, Try.ntmps102
      go_wp2
      ((first | refine RegC.wp_region_ext1 (by kernel_rfl) (by kernel_rfl) ?_ | refine RegC.wp_region_ext0 (by kernel_rfl) (by kernel_rfl) ?_); (repeat (any_goals (first | go_big_quiet_step (fail) | (refine RegC.wpQuiet_split rfl rfl (fun hb => ?_) (fun hb => ?_) <;> simp only [hb])))); all_goals (refine wpQuiet_nil ?_; rintro _ ⟨nq, rfl⟩))
      go_wp2
      go_ret
      exact ⟨ret_int ratioChk_min.symm, ext_of (((Bel.refl _).alloc _).ext _)⟩
    · have c2' : (n == -9223372036854775808) = false := by simpa using c2
      have E1 := Lib.hid (ratioChk_one (n := n) (d := d) (by omega) c2)
      have E2 := Lib.hid (ratioChk_more (n := n) (d := d))
      have E3 := Lib.hid (gcd_one (n := n) (d := d) (by omega))
      obtain ⟨dn, rfl⟩ : ∃ dn : Nat, d = dn := ⟨d.toNat, by omega⟩
      go_enter Try.func102, Try.ntmps102
      go_wp2
      ((first | refine RegC.wp_region_ext1 (by kernel_rfl) (by kernel_rfl) ?_ | refine RegC.wp_region_ext0 (by kernel_rfl) (by kernel_rfl) ?_); (repeat (any_goals (first | go_big_quiet_step (first | (go_at_call 122; first | exact Calls.ext_of1 (abs_any _ _ (by omega)) | exact Calls.ext_of (abs_any _ _ (by omega))) | (go_at_call 121; first | exact Calls.ext_of1 (gcd_any _ _ _ (by omega) (by omega)) | exact Calls.ext_of (gcd_any _ _ _ (by omega) (by omega)))) | (refine RegC.wpQuiet_split rfl rfl (fun hb => ?_) (fun hb => ?_) <;> simp only [hb])))); all_goals (refine wpQuiet_nil ?_; rintro _ ⟨nq, rfl⟩))
      go_wp2
      · have hg : 1 < Nat.gcd dn n.natAbs := by omega
        go_ret
        exact ⟨ret_int (E2.out (by simp only [Int.toNat_natCast]; omega)).symm, ext_of (((Bel.refl _).alloc _).ext _)⟩
      · have hg : ¬ 1 < Nat.gcd dn n.natAbs := by omega
        go_ret
        exact ⟨ret_int (E1.out (E3.out (by simpa using hg))).symm, ext_of (((Bel.refl _).alloc _).ext _)⟩


end Go.Proofs.Ytkcpnclgcmnlcaa
