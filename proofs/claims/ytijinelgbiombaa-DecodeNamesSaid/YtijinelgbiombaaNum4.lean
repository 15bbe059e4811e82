/- Fractions are made: ratio.Make and its reference. -/
import Derived.Test.YtijinelgbiombaaNum3
set_option linter.unusedSimpArgs false
set_option linter.unusedVariables false
namespace Go.Proofs.Ytijinelgbiombaa
open Go.RowKit Go.Pel
theorem wrap_div {a g : Nat} (h : a < 18446744073709551616) : IntKind.u64.wrap ((a : Int) / (g : Int)) = ((a / g : Nat) : Int) := by
  have := div_bound (g := g) h
  rw [← Int.natCast_ediv]; generalize a / g = q at *; rw [IntKind.wrap_u64]; omega

set_option maxHeartbeats 1000000 in
theorem make_any (n d : Int) (w : World) (hn : -9223372036854775808 ≤ n ∧ n ≤ 9223372036854775807) (hd : -9223372036854775808 ≤ d ∧ d ≤ 9223372036854775807) :
    Calls Try.prog 51 #[.int .i64 n, .int .i64 d] w fun e w' => e = .returned (.tuple #[.agg #[.int .i64 (mk n d).1, .int .i64 (mk n d).2.1], .int .i64 (mk n d).2.2]) ∧ ∃ x, w' = ext w x := by
  obtain ⟨hn1, hn2⟩ := hn; obtain ⟨hd1, hd2⟩ := hd
  by_cases c : d = 0
  · subst c
    go_enter Try.func51, Try.ntmps51
    go_wp2
    exact bodyPost_ret (v := .tuple #[.agg #[.int .i64 0, .int .i64 0], .int .i64 26]) (by simp [results, Try.results51, go_sem]) rfl ⟨by rw [mk_zero], ext_of (by (try simp only [ext_ext]); repeat (first | exact Bel.refl _ | assumption | refine bel_and ?_ _ | refine bel_drews ?_ _ | refine Bel.ext ?_ _ | refine Bel.alloc ?_ _ | refine Bel.drewN ?_ _))⟩
  · have c' : (d == 0) = false := by simpa using c
    have E1 := Lib.hid (mk_some' (n := n) c)
    have g1 := mk_gcd_pos (n := n) c
    have g2 : Nat.gcd n.natAbs d.natAbs < 18446744073709551616 := Nat.lt_of_le_of_lt (Nat.gcd_le_right _ (by omega)) (by omega : d.natAbs < 18446744073709551616)
    have b1 := div_bound (a := n.natAbs) (g := Nat.gcd n.natAbs d.natAbs) (B := 18446744073709551616) (by omega)
    have b2 := div_bound (a := d.natAbs) (g := Nat.gcd n.natAbs d.natAbs) (B := 18446744073709551616) (by omega)
    have G1 : ((Nat.gcd n.natAbs d.natAbs : Int) == 0) = false := by rw [beq_eq_false_iff_ne]; omega
    have q1 : IntKind.u64.wrap ((n.natAbs : Int) / (Nat.gcd n.natAbs d.natAbs : Int)) = ((n.natAbs / Nat.gcd n.natAbs d.natAbs : Nat) : Int) := wrap_div (by omega)
    have q2 : IntKind.u64.wrap ((d.natAbs : Int) / (Nat.gcd n.natAbs d.natAbs : Int)) = ((d.natAbs / Nat.gcd n.natAbs d.natAbs : Nat) : Int) := wrap_div (by omega)
    go_enter Try.func51, Try.ntmps51
    go_wp2_with (first | (go_at_call 44; refine (abs_any _ _ (by omega)).mono ?_; rintro e _ ⟨rfl, nx, rfl⟩) | (go_at_call 54; refine (gcd_any _ _ _ (by omega) (by omega)).mono ?_; rintro e _ ⟨rfl, nx, rfl⟩))
    ((first | refine RegC.wp_region_tail1 17 (by kernel_rfl) (by kernel_rfl) ?_ | refine RegC.wp_region_tail0 17 (by kernel_rfl) (by kernel_rfl) ?_); simp only [List.take_succ_cons, List.take_zero, List.drop_succ_cons, List.drop_zero]; (repeat (any_goals (first | go_big_quiet_step (first | (go_at_call 44; first | exact Calls.ext_of1 (abs_any _ _ (by omega)) | exact Calls.ext_of (abs_any _ _ (by omega))) | (go_at_call 55; first | exact Calls.ext_of1 (build_any _ 0 _ 0 _ _ (by omega) (by omega) (by omega) (by omega)) | exact Calls.ext_of (build_any _ 0 _ 0 _ _ (by omega) (by omega) (by omega) (by omega)))) | (refine RegC.wpQuiet_split rfl rfl (fun hb => ?_) (fun hb => ?_) <;> simp only [hb])))); all_goals (refine wpQuiet_nil ?_; rintro _ ⟨nq, rfl⟩))
    go_wp2
    exact bodyPost_ret (v := .tuple #[.agg #[.int .i64 (mk n d).1, .int .i64 (mk n d).2.1], .int .i64 (mk n d).2.2]) (by simp [results, Try.results51, go_sem, E1.out]) rfl ⟨rfl, ext_of (by (try simp only [ext_ext]); repeat (first | exact Bel.refl _ | assumption | refine bel_and ?_ _ | refine bel_drews ?_ _ | refine Bel.ext ?_ _ | refine Bel.alloc ?_ _ | refine Bel.drewN ?_ _))⟩

set_option maxHeartbeats 1000000 in
theorem ref01Make_any (n d : Int) (w : World) (hn : -9223372036854775808 ≤ n ∧ n ≤ 9223372036854775807) (hd : -9223372036854775808 ≤ d ∧ d ≤ 9223372036854775807) :
    Calls Try.prog 53 #[.int .i64 n, .int .i64 d] w fun e w' => e = .returned (.tuple #[.agg #[.int .i64 (mk n d).1, .int .i64 (mk n d).2.1], .int .i64 (mk n d).2.2]) ∧ ∃ x, w' = ext w x := by
  obtain ⟨hn1, hn2⟩ := hn; obtain ⟨hd1, hd2⟩ := hd
  by_cases c : d = 0
  · subst c
    go_enter Try.func53, Try.ntmps53
    go_wp2
    exact bodyPost_ret (v := .tuple #[.agg #[.int .i64 0, .int .i64 0], .int .i64 26]) (by simp [results, Try.results53, go_sem]) rfl ⟨by rw [mk_zero], ext_of (by (try simp only [ext_ext]); repeat (first | exact Bel.refl _ | assumption | refine bel_and ?_ _ | refine bel_drews ?_ _ | refine Bel.ext ?_ _ | refine Bel.alloc ?_ _ | refine Bel.drewN ?_ _))⟩
  · have c' : (d == 0) = false := by simpa using c
    have E1 := Lib.hid (mk_ref1 (n := n) c)
    have E2 := Lib.hid (mk_ref2 (n := n) c)
    have g1 := mk_gcd_pos (n := n) c
    have g2 : Nat.gcd n.natAbs d.natAbs < 18446744073709551616 := Nat.lt_of_le_of_lt (Nat.gcd_le_right _ (by omega)) (by omega : d.natAbs < 18446744073709551616)
    have b1 := div_bound (a := n.natAbs) (g := Nat.gcd n.natAbs d.natAbs) (B := 18446744073709551616) (by omega)
    have b2 := div_bound (a := d.natAbs) (g := Nat.gcd n.natAbs d.natAbs) (B := 18446744073709551616) (by omega)
    have G1 : ((Nat.gcd n.natAbs d.natAbs : Int) == 0) = false := by rw [beq_eq_false_iff_ne]; omega
    have q1 : IntKind.u64.wrap ((n.natAbs : Int) / (Nat.gcd n.natAbs d.natAbs : Int)) = ((n.natAbs / Nat.gcd n.natAbs d.natAbs : Nat) : Int) := wrap_div (by omega)
    have q2 : IntKind.u64.wrap ((d.natAbs : Int) / (Nat.gcd n.natAbs d.natAbs : Int)) = ((d.natAbs / Nat.gcd n.natAbs d.natAbs : Nat) : Int) := wrap_div (by omega)
    go_enter Try.func53, Try.ntmps53
    go_wp2_with (first | (go_at_call 48; refine (size_any _ _ (by omega)).mono ?_; rintro e _ ⟨rfl, nx, rfl⟩) | (go_at_call 47; refine (common_any _ _ _ (by omega) (by omega)).mono ?_; rintro e _ ⟨rfl, nx, rfl⟩))
    ((first | refine RegC.wp_region_tail1 22 (by kernel_rfl) (by kernel_rfl) ?_ | refine RegC.wp_region_tail0 22 (by kernel_rfl) (by kernel_rfl) ?_); simp only [List.take_succ_cons, List.take_zero, List.drop_succ_cons, List.drop_zero]; (repeat (any_goals (first | go_big_quiet_step (first | (go_at_call 48; first | exact Calls.ext_of1 (size_any _ _ (by omega)) | exact Calls.ext_of (size_any _ _ (by omega))) | (go_at_call 56; first | exact Calls.ext_of1 (made_any _ _ _ 0 _ 0 _ _ (by omega) (by omega) (by omega) (by omega)) | exact Calls.ext_of (made_any _ _ _ 0 _ 0 _ _ (by omega) (by omega) (by omega) (by omega)))) | (refine RegC.wpQuiet_split rfl rfl (fun hb => ?_) (fun hb => ?_) <;> simp only [hb])))); all_goals (refine wpQuiet_nil ?_; rintro _ ⟨nq, rfl⟩))
    all_goals go_wp2
    · exact bodyPost_ret (v := .tuple #[.agg #[.int .i64 (mk n d).1, .int .i64 (mk n d).2.1], .int .i64 (mk n d).2.2]) (by simp [results, Try.results53, go_sem, E1.out (by assumption)]) rfl ⟨rfl, ext_of (by (try simp only [ext_ext]); repeat (first | exact Bel.refl _ | assumption | refine bel_and ?_ _ | refine bel_drews ?_ _ | refine Bel.ext ?_ _ | refine Bel.alloc ?_ _ | refine Bel.drewN ?_ _))⟩
    · exact bodyPost_ret (v := .tuple #[.agg #[.int .i64 (mk n d).1, .int .i64 (mk n d).2.1], .int .i64 (mk n d).2.2]) (by simp [results, Try.results53, go_sem, E2.out (by assumption)]) rfl ⟨rfl, ext_of (by (try simp only [ext_ext]); repeat (first | exact Bel.refl _ | assumption | refine bel_and ?_ _ | refine bel_drews ?_ _ | refine Bel.ext ?_ _ | refine Bel.alloc ?_ _ | refine Bel.drewN ?_ _))⟩
end Go.Proofs.Ytijinelgbiombaa
