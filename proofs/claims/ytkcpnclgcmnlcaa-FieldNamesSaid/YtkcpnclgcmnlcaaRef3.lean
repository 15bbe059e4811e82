/- Who is ahead, by the reference. -/
import Derived.Test.YtkcpnclgcmnlcaaRef2
import Derived.Test.YtkcpnclgcmnlcaaCrs3
set_option linter.unusedSimpArgs false
set_option linter.unusedVariables false
namespace Go.Proofs.Ytkcpnclgcmnlcaa
open Go.RowKit Go.Pel
set_option maxRecDepth 10000 in
set_option maxHeartbeats 2000000 in
theorem refFar_any (p q : Pt) (n d : Int) (w : World) (h : CmpIn p q n d) :
    Calls Try.prog 127 #[.agg #[.int .i64 p.id, .int .i64 p.a, .int .i64 p.b], .agg #[.int .i64 q.id, .int .i64 q.a, .int .i64 q.b], .agg #[.int .i64 n, .int .i64 d]] w fun e w' => e = .returned (.int .i64 (cmpZ (farD p q n d) 0)) ∧ ∃ x, w' = ext w x := by
  obtain ⟨k1, k2⟩ := far_bd h
  obtain ⟨h1, h2, h3, h4, h5, h6⟩ := h
  obtain ⟨P, hP⟩ : ∃ P, (p.a - q.a) * d = P := ⟨_, rfl⟩
  obtain ⟨Q, hQ⟩ : ∃ Q, (p.b - q.b) * n = Q := ⟨_, rfl⟩
  have q1 := fun W => refProduct_any (p.a - q.a) d W (by omega) (by omega)
  have q2 := fun W => refProduct_any (p.b - q.b) n W (by omega) (by omega)
  have hD : farD p q n d = P + Q := by unfold farD; rw [hP, hQ]
  rw [hP] at q1 k1
  rw [hQ] at q2 k2
  have q3 := fun W => plus_any P Q W (by omega) (by omega)
  have q4 := fun W => sign_any (P + Q) W
  obtain ⟨x1, y1⟩ : ∃ x, P.natAbs / 18446744073709551616 = x := ⟨_, rfl⟩
  obtain ⟨x2, y2⟩ : ∃ x, P.natAbs % 18446744073709551616 = x := ⟨_, rfl⟩
  obtain ⟨x3, y3⟩ : ∃ x, Q.natAbs / 18446744073709551616 = x := ⟨_, rfl⟩
  obtain ⟨x4, y4⟩ : ∃ x, Q.natAbs % 18446744073709551616 = x := ⟨_, rfl⟩
  obtain ⟨x5, y5⟩ : ∃ x, (P + Q).natAbs / 18446744073709551616 = x := ⟨_, rfl⟩
  obtain ⟨x6, y6⟩ : ∃ x, (P + Q).natAbs % 18446744073709551616 = x := ⟨_, rfl⟩
  obtain ⟨s1, z1⟩ : ∃ x, decide (P < 0) = x := ⟨_, rfl⟩
  obtain ⟨s2, z2⟩ : ∃ x, decide (Q < 0) = x := ⟨_, rfl⟩
  obtain ⟨s3, z3⟩ : ∃ x, decide (P + Q < 0) = x := ⟨_, rfl⟩
  rw [y1, y2, z1] at q1
  rw [y3, y4, z2] at q2
  simp only [y1, y2, y3, y4, y5, y6, z1, z2, z3] at q3
  simp only [y5, y6, z3] at q4
  clear y1 y2 y3 y4 y5 y6 z1 z2 z3
  have Q3 := Lib.hid q3
  have Q4 := Lib.hid q4
  have Q1 := Lib.hid q1
  have Q2 := Lib.hid q2
  rw [hD]
  obtain ⟨a1, a2⟩ := h1; obtain ⟨a3, a4⟩ := h2; obtain ⟨a5, a6⟩ := h3; obtain ⟨a7, a8⟩ := h4
  clear q1 q2 q3 q4 hP hQ hD k1 k2 h5 h6
  go_enter Try.func127, Try.ntmps127
  go_wp2
  have j1 : IntKind.i64.wrap (p.a - q.a) = p.a - q.a := IntWalk.i64_in _ (by omega)
  have j2 : IntKind.i64.wrap (p.b - q.b) = p.b - q.b := IntWalk.i64_in _ (by omega)
  ((first | refine RegC.wp_region_ext1 (by kernel_rfl) (by kernel_rfl) ?_ | refine RegC.wp_region_ext0 (by kernel_rfl) (by kernel_rfl) ?_); (repeat (any_goals (first | go_big_quiet_step (first | (go_at_call 144; with_reducible exact Calls.ext_of (Q1.out _)) | (go_at_call 144; with_reducible exact Calls.ext_of (Q2.out _)) | (go_at_call 143; with_reducible exact Calls.ext_of (Q3.out _)) | (go_at_call 142; with_reducible exact Calls.ext_of (Q4.out _))) | (refine RegC.wpQuiet_split rfl rfl (fun hb => ?_) (fun hb => ?_) <;> simp only [hb])))); all_goals (refine wpQuiet_nil ?_; rintro _ ⟨nq, rfl⟩))
  clear j1 j2
  go_wp2
  (go_ret; exact ⟨ret_int (by rfl), ext_of (by (try simp only [ext_ext]); repeat (first | exact Bel.refl _ | assumption | refine bel_and ?_ _ | refine bel_drews ?_ _ | refine Bel.ext ?_ _ | refine Bel.alloc ?_ _ | refine Bel.drewN ?_ _))⟩)
set_option maxRecDepth 10000 in
set_option maxHeartbeats 2000000 in
theorem refLeads_any (p q : Pt) (n d : Int) (w : World) (h : CmpIn p q n d) :
    Calls Try.prog 115 #[.agg #[.int .i64 p.id, .int .i64 p.a, .int .i64 p.b], .agg #[.int .i64 q.id, .int .i64 q.a, .int .i64 q.b], .agg #[.int .i64 n, .int .i64 d]] w fun e w' => e = .returned (.bool (leads p q n d)) ∧ ∃ x, w' = ext w x := by
  have q1 := Lib.hid (fun W => refFar_any p q n d W h)
  rcases (by omega : farD p q n d < 0 ∨ farD p q n d = 0 ∨ 0 < farD p q n d) with hd | hd | hd
  · have HR : Hid (leads p q n d = false) := Lib.hid (by unfold leads; rw [if_pos (by omega)]; simp; omega)
    rw [cmpZ_lt hd] at q1
    clear hd h
    go_enter Try.func115, Try.ntmps115
    go_wp2_with ((go_at_call 127; refine (q1.out _).mono ?_; rintro e _ ⟨rfl, nx, rfl⟩))
    (go_ret; exact ⟨ret_bool (by rw [HR.out]), ext_of (by (try simp only [ext_ext]); repeat (first | exact Bel.refl _ | assumption | refine bel_and ?_ _ | refine bel_drews ?_ _ | refine Bel.ext ?_ _ | refine Bel.alloc ?_ _ | refine Bel.drewN ?_ _))⟩)
  · rw [cmpZ_eq hd] at q1
    by_cases hb : p.b = q.b
    · have HR : Hid (leads p q n d = decide (p.id < q.id)) := Lib.hid (by unfold leads; rw [if_neg (by omega), if_neg (by omega)])
      have hb' : (p.b == q.b) = true := by simpa using hb
      have hb2 : (p.b != q.b) = false := by simpa using hb
      clear hd h hb
      go_enter Try.func115, Try.ntmps115
      go_wp2_with ((go_at_call 127; refine (q1.out _).mono ?_; rintro e _ ⟨rfl, nx, rfl⟩))
      (go_ret; exact ⟨ret_bool (by exact HR.out.symm), ext_of (by (try simp only [ext_ext]); repeat (first | exact Bel.refl _ | assumption | refine bel_and ?_ _ | refine bel_drews ?_ _ | refine Bel.ext ?_ _ | refine Bel.alloc ?_ _ | refine Bel.drewN ?_ _))⟩)
    · have HR : Hid (leads p q n d = decide (q.b < p.b)) := Lib.hid (by unfold leads; rw [if_neg (by omega), if_pos hb])
      have hb' : (p.b == q.b) = false := by simpa using hb
      have hb2 : (p.b != q.b) = true := by simpa using hb
      clear hd h hb
      go_enter Try.func115, Try.ntmps115
      go_wp2_with ((go_at_call 127; refine (q1.out _).mono ?_; rintro e _ ⟨rfl, nx, rfl⟩))
      (go_ret; exact ⟨ret_bool (by exact HR.out.symm), ext_of (by (try simp only [ext_ext]); repeat (first | exact Bel.refl _ | assumption | refine bel_and ?_ _ | refine bel_drews ?_ _ | refine Bel.ext ?_ _ | refine Bel.alloc ?_ _ | refine Bel.drewN ?_ _))⟩)
  · have HR : Hid (leads p q n d = true) := Lib.hid (by unfold leads; rw [if_pos (by omega)]; exact decide_eq_true hd)
    rw [cmpZ_gt hd] at q1
    clear hd h
    go_enter Try.func115, Try.ntmps115
    go_wp2_with ((go_at_call 127; refine (q1.out _).mono ?_; rintro e _ ⟨rfl, nx, rfl⟩))
    (go_ret; exact ⟨ret_bool (by rw [HR.out]), ext_of (by (try simp only [ext_ext]); repeat (first | exact Bel.refl _ | assumption | refine bel_and ?_ _ | refine bel_drews ?_ _ | refine Bel.ext ?_ _ | refine Bel.alloc ?_ _ | refine Bel.drewN ?_ _))⟩)
end Go.Proofs.Ytkcpnclgcmnlcaa
