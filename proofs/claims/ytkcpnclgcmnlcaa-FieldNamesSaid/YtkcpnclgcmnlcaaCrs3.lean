/- course.two, Ahead. -/
import Derived.Test.YtkcpnclgcmnlcaaCrs2
set_option linter.unusedSimpArgs false
set_option linter.unusedVariables false
namespace Go.Proofs.Ytkcpnclgcmnlcaa
open Go.RowKit Go.Pel
theorem rchk_lit (n d v : Int) (h : ratioChk n d = v) (hn : -9223372036854775808 ≤ n ∧ n ≤ 9223372036854775807) (hd : -9223372036854775808 ≤ d ∧ d ≤ 9223372036854775807) (W : World) : Calls Try.prog 102 #[.agg #[.int .i64 n, .int .i64 d]] W fun e w' => e = .returned (.int .i64 v) ∧ ∃ y, w' = ext W y := by
  subst h; exact ratioCheck_any n d W hn hd
set_option maxRecDepth 10000 in
set_option maxHeartbeats 2000000 in
theorem two_any (p q : Pt) (n d : Int) (w : World) (hn : -9223372036854775808 ≤ n ∧ n ≤ 9223372036854775807) (hd : -9223372036854775808 ≤ d ∧ d ≤ 9223372036854775807) :
    Calls Try.prog 94 #[.agg #[.int .i64 p.id, .int .i64 p.a, .int .i64 p.b], .agg #[.int .i64 q.id, .int .i64 q.a, .int .i64 q.b], .agg #[.int .i64 n, .int .i64 d]] w fun e w' => e = .returned (.int .i64 (twoChk p q n d)) ∧ ∃ x, w' = ext w x := by
  rcases pt_cases p with h1 | h1 <;> rcases pt_cases q with h2 | h2 <;> rcases ratioChk_cases n d with h3 | h3
  · have q1 := Lib.hid (pchk_lit p _ h1); have q2 := Lib.hid (pchk_lit q _ h2); have q3 := Lib.hid (rchk_lit n d _ h3 hn hd)
    by_cases hi : p.id = q.id
    · have HR := Lib.hid (twoChk_same (p := p) (q := q) ⟨h1, h2, h3⟩ hi)
      have hi' : (p.id == q.id) = true := by simpa using hi
      clear h1 h2 h3 hn hd hi
      go_enter Try.func94, Try.ntmps94
      go_wp2
      ((first | refine RegC.wp_region_ext1 (by kernel_rfl) (by kernel_rfl) ?_ | refine RegC.wp_region_ext0 (by kernel_rfl) (by kernel_rfl) ?_); (repeat (any_goals (first | go_big_quiet_step (first | (go_at_call 67; with_reducible exact Calls.ext_of (q1.out _)) | (go_at_call 67; with_reducible exact Calls.ext_of (q2.out _)) | (go_at_call 102; with_reducible exact Calls.ext_of (q3.out _))) | (refine RegC.wpQuiet_split rfl rfl (fun hb => ?_) (fun hb => ?_) <;> simp only [hb])))); all_goals (refine wpQuiet_nil ?_; rintro _ ⟨nq, rfl⟩))
      go_wp2
      (go_ret; exact ⟨ret_int (by exact HR.out.symm), ext_of (by (try simp only [ext_ext]); repeat (first | exact Bel.refl _ | assumption | refine bel_and ?_ _ | refine bel_drews ?_ _ | refine Bel.ext ?_ _ | refine Bel.alloc ?_ _ | refine Bel.drewN ?_ _))⟩)
    · have HR := Lib.hid (twoChk_ok (p := p) (q := q) ⟨h1, h2, h3⟩ hi)
      have hi' : (p.id == q.id) = false := by simpa using hi
      clear h1 h2 h3 hn hd hi
      go_enter Try.func94, Try.ntmps94
      go_wp2
      ((first | refine RegC.wp_region_ext1 (by kernel_rfl) (by kernel_rfl) ?_ | refine RegC.wp_region_ext0 (by kernel_rfl) (by kernel_rfl) ?_); (repeat (any_goals (first | go_big_quiet_step (first | (go_at_call 67; with_reducible exact Calls.ext_of (q1.out _)) | (go_at_call 67; with_reducible exact Calls.ext_of (q2.out _)) | (go_at_call 102; with_reducible exact Calls.ext_of (q3.out _))) | (refine RegC.wpQuiet_split rfl rfl (fun hb => ?_) (fun hb => ?_) <;> simp only [hb])))); all_goals (refine wpQuiet_nil ?_; rintro _ ⟨nq, rfl⟩))
      go_wp2
      (go_ret; exact ⟨ret_int (by exact HR.out.symm), ext_of (by (try simp only [ext_ext]); repeat (first | exact Bel.refl _ | assumption | refine bel_and ?_ _ | refine bel_drews ?_ _ | refine Bel.ext ?_ _ | refine Bel.alloc ?_ _ | refine Bel.drewN ?_ _))⟩)
  all_goals
    have q1 := Lib.hid (pchk_lit p _ h1)
    have q2 := Lib.hid (pchk_lit q _ h2)
    have q3 := Lib.hid (rchk_lit n d _ h3 hn hd)
    have HR := Lib.hid (twoChk_bad (p := p) (q := q) (n := n) (d := d) (by rw [h1, h2, h3]; decide))
    clear h1 h2 h3 hn hd
    go_enter Try.func94, Try.ntmps94
    go_wp2
    ((first | refine RegC.wp_region_ext1 (by kernel_rfl) (by kernel_rfl) ?_ | refine RegC.wp_region_ext0 (by kernel_rfl) (by kernel_rfl) ?_); (repeat (any_goals (first | go_big_quiet_step (first | (go_at_call 67; with_reducible exact Calls.ext_of (q1.out _)) | (go_at_call 67; with_reducible exact Calls.ext_of (q2.out _)) | (go_at_call 102; with_reducible exact Calls.ext_of (q3.out _))) | (refine RegC.wpQuiet_split rfl rfl (fun hb => ?_) (fun hb => ?_) <;> simp only [hb])))); all_goals (refine wpQuiet_nil ?_; rintro _ ⟨nq, rfl⟩))
    go_wp2
    (go_ret; exact ⟨ret_int (by exact HR.out.symm), ext_of (by (try simp only [ext_ext]); repeat (first | exact Bel.refl _ | assumption | refine bel_and ?_ _ | refine bel_drews ?_ _ | refine Bel.ext ?_ _ | refine Bel.alloc ?_ _ | refine Bel.drewN ?_ _))⟩)
theorem cmpIn_of {p q : Pt} {n d : Int} (hp : p.chk = 0) (hq : q.chk = 0) (hr : ratioChk n d = 0) (hn : -9223372036854775808 ≤ n ∧ n ≤ 9223372036854775807) (hd : -9223372036854775808 ≤ d ∧ d ≤ 9223372036854775807) : CmpIn p q n d := by
  have h1 := chk_pt hp
  have h2 := chk_pt hq
  have h3 := ratioChk_zero hr
  exact ⟨by omega, by omega, by omega, by omega, by omega, by omega⟩
set_option maxRecDepth 10000 in
set_option maxHeartbeats 2000000 in
theorem ahead_any (p q : Pt) (n d : Int) (w : World) (hn : -9223372036854775808 ≤ n ∧ n ≤ 9223372036854775807) (hd : -9223372036854775808 ≤ d ∧ d ≤ 9223372036854775807) :
    Calls Try.prog 58 #[.agg #[.int .i64 p.id, .int .i64 p.a, .int .i64 p.b], .agg #[.int .i64 q.id, .int .i64 q.a, .int .i64 q.b], .agg #[.int .i64 n, .int .i64 d]] w fun e w' => e = .returned (.tuple #[.bool (aheadV p q n d).1, .int .i64 (aheadV p q n d).2]) ∧ ∃ x, w' = ext w x := by
  have q1 := Lib.hid (fun W => two_any p q n d W hn hd)
  by_cases h : twoChk p q n d = 0
  · have HV : Hid (aheadV p q n d = (leads p q n d, 0)) := Lib.hid (by unfold aheadV; rw [if_pos h])
    obtain ⟨h1, h2, h3, _⟩ := twoChk_zero h
    have q2 := Lib.hid (fun W => compare_any p q n d W (cmpIn_of h1 h2 h3 hn hd))
    rw [h] at q1
    have HL := Lib.hid (cmpC_leads p q n d)
    obtain ⟨C, hC⟩ : ∃ C, cmpC p q n d = C := ⟨_, rfl⟩
    rw [hC] at q2 HL
    clear h h1 h2 h3 hn hd hC
    go_enter Try.func58, Try.ntmps58
    go_wp2_with (first | (go_at_call 94; refine (q1.out _).mono ?_; rintro e _ ⟨rfl, nx, rfl⟩) | (go_at_call 95; refine (q2.out _).mono ?_; rintro e _ ⟨rfl, nx, rfl⟩))
    go_ret2
    exact ⟨by rw [HV.out, ← HL.out]; rfl, ext_of (by (try simp only [ext_ext]); repeat (first | exact Bel.refl _ | assumption | refine bel_and ?_ _ | refine bel_drews ?_ _ | refine Bel.ext ?_ _ | refine Bel.alloc ?_ _ | refine Bel.drewN ?_ _))⟩
  · have HV : Hid (aheadV p q n d = (false, twoChk p q n d)) := Lib.hid (by unfold aheadV; rw [if_neg h])
    have hz : (twoChk p q n d == 0) = false := by simpa using h
    have hz' : (twoChk p q n d != 0) = true := by simpa using h
    clear h hn hd
    go_enter Try.func58, Try.ntmps58
    go_wp2_with ((go_at_call 94; refine (q1.out _).mono ?_; rintro e _ ⟨rfl, nx, rfl⟩))
    go_ret2
    exact ⟨by rw [HV.out]; rfl, ext_of (by (try simp only [ext_ext]); repeat (first | exact Bel.refl _ | assumption | refine bel_and ?_ _ | refine bel_drews ?_ _ | refine Bel.ext ?_ _ | refine Bel.alloc ?_ _ | refine Bel.drewN ?_ _))⟩
end Go.Proofs.Ytkcpnclgcmnlcaa
