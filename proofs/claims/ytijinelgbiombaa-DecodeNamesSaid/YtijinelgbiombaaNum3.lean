/- Fractions are made: ratio.Make and its reference. -/
import Derived.Test.YtijinelgbiombaaNum2
set_option linter.unusedSimpArgs false
set_option linter.unusedVariables false
namespace Go.Proofs.Ytijinelgbiombaa
open Go.RowKit Go.Pel

set_option maxHeartbeats 1000000 in
theorem build_any (neg : Bool) (hi lo dhi dlo : Nat) (w : World) (h1 : hi < 18446744073709551616) (h2 : lo < 18446744073709551616) (h3 : dhi < 18446744073709551616) (h4 : dlo < 18446744073709551616) :
    Calls Try.prog 55 #[.agg #[.bool neg, .int .u64 hi, .int .u64 lo], .int .u64 dhi, .int .u64 dlo] w fun e w' => e = .returned (.tuple #[.agg #[.int .i64 (bld neg hi lo dhi dlo).1, .int .i64 (bld neg hi lo dhi dlo).2.1], .int .i64 (bld neg hi lo dhi dlo).2.2]) ∧ ∃ x, w' = ext w x := by
  have E1 := Lib.hid (@bld_no neg hi lo dhi dlo)
  have E2 := Lib.hid (@bld_neg hi lo dhi dlo)
  have E3 := Lib.hid (@bld_pos hi lo dhi dlo)
  cases neg
  all_goals (
    go_enter Try.func55, Try.ntmps55
    go_wp2)
  all_goals first
    | (have e := E1.out (by omega); exact bodyPost_ret (v := .tuple #[.agg #[.int .i64 0, .int .i64 0], .int .i64 16]) (by simp [results, Try.results55, go_sem]) rfl ⟨by first | rw [e] | (simp only [‹hi = 0›] at e; rw [e]), ext_of (by (try simp only [ext_ext]); repeat (first | exact Bel.refl _ | assumption | refine bel_and ?_ _ | refine bel_drews ?_ _ | refine Bel.ext ?_ _ | refine Bel.alloc ?_ _ | refine Bel.drewN ?_ _))⟩)
    | (have e := E2.out (by omega); exact bodyPost_ret (v := .tuple #[.agg #[.int .i64 (-(lo : Int)), .int .i64 dlo], .int .i64 0]) (by simp [results, Try.results55, go_sem]) rfl ⟨by first | rw [e] | (simp only [‹hi = 0›] at e; rw [e]), ext_of (by (try simp only [ext_ext]); repeat (first | exact Bel.refl _ | assumption | refine bel_and ?_ _ | refine bel_drews ?_ _ | refine Bel.ext ?_ _ | refine Bel.alloc ?_ _ | refine Bel.drewN ?_ _))⟩)
    | (have e := E3.out (by omega); exact bodyPost_ret (v := .tuple #[.agg #[.int .i64 lo, .int .i64 dlo], .int .i64 0]) (by simp [results, Try.results55, go_sem]) rfl ⟨by first | rw [e] | (simp only [‹hi = 0›] at e; rw [e]), ext_of (by (try simp only [ext_ext]); repeat (first | exact Bel.refl _ | assumption | refine bel_and ?_ _ | refine bel_drews ?_ _ | refine Bel.ext ?_ _ | refine Bel.alloc ?_ _ | refine Bel.drewN ?_ _))⟩)

set_option maxHeartbeats 1000000 in
theorem made_any (neg n1 n2 : Bool) (hi lo dhi dlo : Nat) (w : World) (h1 : hi < 18446744073709551616) (h2 : lo < 18446744073709551616) (h3 : dhi < 18446744073709551616) (h4 : dlo < 18446744073709551616) :
    Calls Try.prog 56 #[.bool neg, .agg #[.bool n1, .int .u64 hi, .int .u64 lo], .agg #[.bool n2, .int .u64 dhi, .int .u64 dlo]] w fun e w' => e = .returned (.tuple #[.agg #[.int .i64 (bld neg hi lo dhi dlo).1, .int .i64 (bld neg hi lo dhi dlo).2.1], .int .i64 (bld neg hi lo dhi dlo).2.2]) ∧ ∃ x, w' = ext w x := by
  have E1 := Lib.hid (@bld_no neg hi lo dhi dlo)
  have E2 := Lib.hid (@bld_neg hi lo dhi dlo)
  have E3 := Lib.hid (@bld_pos hi lo dhi dlo)
  cases neg
  all_goals (
    go_enter Try.func56, Try.ntmps56
    go_wp2)
  all_goals first
    | (have e := E1.out (by omega); exact bodyPost_ret (v := .tuple #[.agg #[.int .i64 0, .int .i64 0], .int .i64 16]) (by simp [results, Try.results56, go_sem]) rfl ⟨by first | rw [e] | (simp only [‹hi = 0›] at e; rw [e]) | (simp only [‹dhi = 0›] at e; rw [e])  | (simp only [‹hi = 0›, ‹dhi = 0›] at e; rw [e]), ext_of (by (try simp only [ext_ext]); repeat (first | exact Bel.refl _ | assumption | refine bel_and ?_ _ | refine bel_drews ?_ _ | refine Bel.ext ?_ _ | refine Bel.alloc ?_ _ | refine Bel.drewN ?_ _))⟩)
    | (have e := E2.out (by omega); exact bodyPost_ret (v := .tuple #[.agg #[.int .i64 (-(lo : Int)), .int .i64 dlo], .int .i64 0]) (by simp [results, Try.results56, go_sem]) rfl ⟨by first | rw [e] | (simp only [‹hi = 0›, ‹dhi = 0›] at e; rw [e]), ext_of (by (try simp only [ext_ext]); repeat (first | exact Bel.refl _ | assumption | refine bel_and ?_ _ | refine bel_drews ?_ _ | refine Bel.ext ?_ _ | refine Bel.alloc ?_ _ | refine Bel.drewN ?_ _))⟩)
    | (have e := E3.out (by omega); exact bodyPost_ret (v := .tuple #[.agg #[.int .i64 lo, .int .i64 dlo], .int .i64 0]) (by simp [results, Try.results56, go_sem]) rfl ⟨by first | rw [e] | (simp only [‹hi = 0›, ‹dhi = 0›] at e; rw [e]), ext_of (by (try simp only [ext_ext]); repeat (first | exact Bel.refl _ | assumption | refine bel_and ?_ _ | refine bel_drews ?_ _ | refine Bel.ext ?_ _ | refine Bel.alloc ?_ _ | refine Bel.drewN ?_ _))⟩)

end Go.Proofs.Ytijinelgbiombaa
