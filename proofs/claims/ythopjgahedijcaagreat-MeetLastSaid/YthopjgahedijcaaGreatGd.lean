/- Walks of the references; the orders agree; examples. -/
import Derived.IntWalk
import Derived.Test.YthopjgahedijcaaGreatGc
set_option linter.unusedSimpArgs false
set_option linter.unusedVariables false
namespace Go.Proofs.YthopjgahedijcaaGreat
open Go Go.Tx Go.Proofs.Tryz
set_option maxRecDepth 100000
set_option maxHeartbeats 0
abbrev course_Meet_ps : List Pk := [.row Riii true, .row Riii true]
abbrev course_Meet_X : Type := Diii × Diii × Unit
abbrev course_Meet_R : Type := Int × Int × Int
def course_Meet_enc (r : course_Meet_R) : LV × List Ob := (.tup [.agg [.int .i64 r.1, .int .i64 r.2.1], .int .i64 r.2.2], [])
def course_Meet_sp (F : course_Meet_X → Option course_Meet_R) : Go.Tx.Spec := ⟨37, course_Meet_ps, course_Meet_R, F, course_Meet_enc⟩
abbrev course_Meet_C : Type := (course_two_X → Option course_two_R) × (ratio_Make_X → Option ratio_Make_R) × Unit
def course_Meet_K (d : Nat) : course_Meet_C := (F_course_two d, F_ratio_Make d, ())
def course_Meet_tab (C : course_Meet_C) : List Go.Tx.Spec := [course_two_sp C.1, ratio_Make_sp C.2.1]
abbrev course_Meet_Y0i : Type := Int × Int × Int × Int × Int × Int
def course_Meet_S0i (v : course_Meet_Y0i) : St := ⟨[(0, .agg [.int .i64 v.1, .int .i64 v.2.1, .int .i64 v.2.2.1]), (1, .agg [.int .i64 v.2.2.2.1, .int .i64 v.2.2.2.2.1, .int .i64 v.2.2.2.2.2])], []⟩
abbrev course_Meet_Y0 : Type := Int × Int × Int × Int × Int × Int × Int × Int
def course_Meet_S0 (v : course_Meet_Y0) : St := ⟨[(2, .ptr 0 0), (3, .ptr 1 0), (4, .ptr 2 0)], [.cells [.int .i64 v.1, .int .i64 v.2.1, .int .i64 v.2.2.1], .cells [.int .i64 v.2.2.2.1, .int .i64 v.2.2.2.2.1, .int .i64 v.2.2.2.2.2.1], .cells [.int .i64 v.2.2.2.2.2.2.1, .int .i64 v.2.2.2.2.2.2.2]]⟩
def course_Meet_r0 (C : course_Meet_C) (v : course_Meet_Y0i) : Dt course_Meet_Y0 := (Dt.ret (v.1, v.2.1, v.2.2.1, v.2.2.2.1, v.2.2.2.2.1, v.2.2.2.2.2, (0:Int), (0:Int)))
theorem course_Meet_g0 (C : course_Meet_C) (v : course_Meet_Y0i) : treg tysT (orc (course_Meet_tab C)) 34 (regO (bodyOf f37) 0) false [(2, .any), (3, .any), (4, .any)] (course_Meet_S0i v) some = (course_Meet_r0 C v).eval fun y => some (course_Meet_S0 y) := by kernel_rfl
abbrev course_Meet_Y1 : Type := Int × Int × Int × Int × Int × Int × Int × Int × Int
def course_Meet_S1 (v : course_Meet_Y1) : St := ⟨[(2, .ptr 0 0), (3, .ptr 1 0), (4, .ptr 2 0), (6, .int .i64 v.1)], [.cells [.int .i64 v.2.1, .int .i64 v.2.2.1, .int .i64 v.2.2.2.1], .cells [.int .i64 v.2.2.2.2.1, .int .i64 v.2.2.2.2.2.1, .int .i64 v.2.2.2.2.2.2.1], .cells [.int .i64 v.2.2.2.2.2.2.2.1, .int .i64 v.2.2.2.2.2.2.2.2]]⟩
def course_Meet_r1 (C : course_Meet_C) (v : course_Meet_Y0) : Dt course_Meet_Y1 := (Dt.bnd (C.1 ((v.1, v.2.1, v.2.2.1, ()), (v.2.2.2.1, v.2.2.2.2.1, v.2.2.2.2.2.1, ()), ((0:Int), (1:Int), ()), ())) fun r1 => (Dt.ret (r1, v.1, v.2.1, v.2.2.1, v.2.2.2.1, v.2.2.2.2.1, v.2.2.2.2.2.1, v.2.2.2.2.2.2.1, v.2.2.2.2.2.2.2)))
theorem course_Meet_g1 (C : course_Meet_C) (v : course_Meet_Y0) : treg tysT (orc (course_Meet_tab C)) 34 (regO (bodyOf f37) 1) false [(2, .any), (3, .any), (4, .any), (6, .any)] (course_Meet_S0 v) some = (course_Meet_r1 C v).eval fun y => some (course_Meet_S1 y) := by kernel_rfl
abbrev course_Meet_Y2 : Type := Int × Bool × Int × Int × Int × Int × Int × Int × Int × Int
def course_Meet_S2 (v : course_Meet_Y2) : St := ⟨[(2, .ptr 0 0), (3, .ptr 1 0), (4, .ptr 2 0), (6, .int .i64 v.1), (12, .bool v.2.1)], [.cells [.int .i64 v.2.2.1, .int .i64 v.2.2.2.1, .int .i64 v.2.2.2.2.1], .cells [.int .i64 v.2.2.2.2.2.1, .int .i64 v.2.2.2.2.2.2.1, .int .i64 v.2.2.2.2.2.2.2.1], .cells [.int .i64 v.2.2.2.2.2.2.2.2.1, .int .i64 v.2.2.2.2.2.2.2.2.2]]⟩
def course_Meet_r2 (C : course_Meet_C) (v : course_Meet_Y1) : Dt course_Meet_Y2 := (Dt.ret (v.1, (v.1 != (0:Int)), v.2.1, v.2.2.1, v.2.2.2.1, v.2.2.2.2.1, v.2.2.2.2.2.1, v.2.2.2.2.2.2.1, v.2.2.2.2.2.2.2.1, v.2.2.2.2.2.2.2.2))
theorem course_Meet_g2 (C : course_Meet_C) (v : course_Meet_Y1) : treg tysT (orc (course_Meet_tab C)) 34 (regO (bodyOf f37) 2) false [(2, .any), (3, .any), (4, .any), (6, .any), (12, .any)] (course_Meet_S1 v) some = (course_Meet_r2 C v).eval fun y => some (course_Meet_S2 y) := by kernel_rfl
abbrev course_Meet_Y3 : Type := Int × Int × Int
def course_Meet_S3 (v : course_Meet_Y3) : St := ⟨[(4, .ptr 0 0), (5, .int .i64 v.1)], [.cells [.int .i64 v.2.1, .int .i64 v.2.2]]⟩
def course_Meet_r3 (C : course_Meet_C) (v : course_Meet_Y2) : Dt course_Meet_Y3 := (Dt.ret (v.1, (0:Int), (0:Int)))
theorem course_Meet_g3 (C : course_Meet_C) (v : course_Meet_Y2) : treg tysT (orc (course_Meet_tab C)) 34 (regO (bodyOf f37) 3) false [(4, .any), (5, .any)] (course_Meet_S2 v) some = (course_Meet_r3 C v).eval fun y => some (course_Meet_S3 y) := by kernel_rfl
abbrev course_Meet_Y4 : Type := Bool × Int × Int × Int × Int × Int × Int × Int × Int
def course_Meet_S4 (v : course_Meet_Y4) : St := ⟨[(2, .ptr 0 0), (3, .ptr 1 0), (4, .ptr 2 0), (19, .bool v.1)], [.cells [.int .i64 v.2.1, .int .i64 v.2.2.1, .int .i64 v.2.2.2.1], .cells [.int .i64 v.2.2.2.2.1, .int .i64 v.2.2.2.2.2.1, .int .i64 v.2.2.2.2.2.2.1], .cells [.int .i64 v.2.2.2.2.2.2.2.1, .int .i64 v.2.2.2.2.2.2.2.2]]⟩
def course_Meet_r4 (C : course_Meet_C) (v : course_Meet_Y2) : Dt course_Meet_Y4 := (Dt.ret ((v.2.2.2.2.1 == v.2.2.2.2.2.2.2.1), v.2.2.1, v.2.2.2.1, v.2.2.2.2.1, v.2.2.2.2.2.1, v.2.2.2.2.2.2.1, v.2.2.2.2.2.2.2.1, v.2.2.2.2.2.2.2.2.1, v.2.2.2.2.2.2.2.2.2))
theorem course_Meet_g4 (C : course_Meet_C) (v : course_Meet_Y2) : treg tysT (orc (course_Meet_tab C)) 34 (regO (bodyOf f37) 4) false [(2, .any), (3, .any), (4, .any), (19, .any)] (course_Meet_S2 v) some = (course_Meet_r4 C v).eval fun y => some (course_Meet_S4 y) := by kernel_rfl
def course_Meet_r5 (C : course_Meet_C) (v : course_Meet_Y4) : Dt course_Meet_Y3 := (Dt.ret ((6:Int), (0:Int), (0:Int)))
theorem course_Meet_g5 (C : course_Meet_C) (v : course_Meet_Y4) : treg tysT (orc (course_Meet_tab C)) 34 (regO (bodyOf f37) 5) false [(4, .any), (5, .any)] (course_Meet_S4 v) some = (course_Meet_r5 C v).eval fun y => some (course_Meet_S3 y) := by kernel_rfl
def course_Meet_r6 (C : course_Meet_C) (v : course_Meet_Y4) : Dt course_Meet_Y3 := (Dt.bnd (C.2.1 (((IntKind.wrap .i64 (v.2.2.1 - v.2.2.2.2.2.1)), ()), ((IntKind.wrap .i64 (v.2.2.2.2.2.2.1 - v.2.2.2.1)), ()), ())) fun r1 => (Dt.ret (r1.2.2, r1.1, r1.2.1)))
theorem course_Meet_g6 (C : course_Meet_C) (v : course_Meet_Y4) : treg tysT (orc (course_Meet_tab C)) 34 (regO (bodyOf f37) 6) false [(4, .any), (5, .any)] (course_Meet_S4 v) some = (course_Meet_r6 C v).eval fun y => some (course_Meet_S3 y) := by kernel_rfl
def F_course_Meet (d : Nat) (x : course_Meet_X) : Option course_Meet_R :=
  (course_Meet_r0 (course_Meet_K d) (x.1.1, x.1.2.1, x.1.2.2.1, x.2.1.1, x.2.1.2.1, x.2.1.2.2.1)).eval fun y0 =>
  (course_Meet_r1 (course_Meet_K d) y0).eval fun y1 =>
  (course_Meet_r2 (course_Meet_K d) y1).eval fun y2 =>
  bif y2.2.1 then ((course_Meet_r3 (course_Meet_K d) y2).eval fun y3 =>
  some (y3.2.1, y3.2.2, y3.1)) else ((course_Meet_r4 (course_Meet_K d) y2).eval fun y4 =>
  bif y4.1 then ((course_Meet_r5 (course_Meet_K d) y4).eval fun y5 =>
  some (y5.2.1, y5.2.2, y5.1)) else ((course_Meet_r6 (course_Meet_K d) y4).eval fun y6 =>
  some (y6.2.1, y6.2.2, y6.1)))
theorem course_Meet_cok (d : Nat) : COK prog (course_Meet_sp (F_course_Meet d)) := by
  have hm : prog.follows .mixedOrders = true := mixed
  have hT := tys
  have hC0 : OrcOK prog (orc (course_Meet_tab (course_Meet_K d))) := orc_ok (by
    intro S hS
    simp only [course_Meet_tab, List.mem_cons, List.not_mem_nil, or_false] at hS
    rcases hS with rfl | rfl
    · exact course_two_cok d
    · exact ratio_Make_cok d)
  have hC : OrcOK prog (orc (course_Meet_tab (course_Meet_K d))) := hC0
  refine cok_of (c := bodyOf f37) (fn := f37) hT (by kernel_rfl) (by kernel_rfl) (by decide) fun x r h w0 φ0 Q hend => ?_
  replace h : F_course_Meet d x = some r := h
  unfold F_course_Meet at h
  show Run prog w0 φ0 34 (bodyOf f37) ⟨[(0, .agg [.int .i64 x.1.1, .int .i64 x.1.2.1, .int .i64 x.1.2.2.1]), (1, .agg [.int .i64 x.2.1.1, .int .i64 x.2.1.2.1, .int .i64 x.2.1.2.2.1])], []⟩ Q
  refine run_seq ?_
  refine run_reg hm hT hC (course_Meet_g0 (course_Meet_K d) (x.1.1, x.1.2.1, x.1.2.2.1, x.2.1.1, x.2.1.2.1, x.2.1.2.2.1)) h ?_
  intro y0 h
  refine cn_then ?_
  refine run_seq ?_
  refine run_seq ?_
  refine run_reg hm hT hC (course_Meet_g1 (course_Meet_K d) y0) h ?_
  intro y1 h
  refine cn_then ?_
  refine run_seq ?_
  refine run_reg hm hT hC (course_Meet_g2 (course_Meet_K d) y1) h ?_
  intro y2 h
  refine cn_then ?_
  refine run_cond (v := y2.2.1) (by kernel_rfl) h ?_ ?_
  ·
    intro h
    refine run_seq ?_
    refine run_reg hm hT hC (course_Meet_g3 (course_Meet_K d) y2) h ?_
    intro y3 h
    refine cn_then ?_
    refine run_ret ?_
    refine cn_then_ret ?_
    cases h
    exact (hend _ (by kernel_rfl)).2
  ·
    intro h
    refine run_skip ?_
    refine cn_then ?_
    refine run_seq ?_
    refine run_seq ?_
    refine run_reg hm hT hC (course_Meet_g4 (course_Meet_K d) y2) h ?_
    intro y4 h
    refine cn_then ?_
    refine run_cond (v := y4.1) (by kernel_rfl) h ?_ ?_
    ·
      intro h
      refine run_seq ?_
      refine run_reg hm hT hC (course_Meet_g5 (course_Meet_K d) y4) h ?_
      intro y5 h
      refine cn_then ?_
      refine run_ret ?_
      refine cn_then_ret ?_
      cases h
      exact (hend _ (by kernel_rfl)).2
    ·
      intro h
      refine run_skip ?_
      refine cn_then ?_
      refine run_seq ?_
      refine run_reg hm hT hC (course_Meet_g6 (course_Meet_K d) y4) h ?_
      intro y6 h
      refine cn_then ?_
      refine run_ret ?_
      cases h
      exact (hend _ (by kernel_rfl)).2
abbrev ratio_both_ps : List Pk := [.row Rii true, .row Rii true]
abbrev ratio_both_X : Type := Dii × Dii × Unit
abbrev ratio_both_R : Type := Int
def ratio_both_enc (r : ratio_both_R) : LV × List Ob := (.int .i64 r, [])
def ratio_both_sp (F : ratio_both_X → Option ratio_both_R) : Go.Tx.Spec := ⟨65, ratio_both_ps, ratio_both_R, F, ratio_both_enc⟩
abbrev ratio_both_C : Type := (ratio_Check_X → Option ratio_Check_R) × Unit
def ratio_both_K (d : Nat) : ratio_both_C := (F_ratio_Check d, ())
def ratio_both_tab (C : ratio_both_C) : List Go.Tx.Spec := [ratio_Check_sp C.1]
abbrev ratio_both_Y0i : Type := Int × Int × Int × Int
def ratio_both_S0i (v : ratio_both_Y0i) : St := ⟨[(0, .agg [.int .i64 v.1, .int .i64 v.2.1]), (1, .agg [.int .i64 v.2.2.1, .int .i64 v.2.2.2])], []⟩
abbrev ratio_both_Y0 : Type := Int × Int × Int × Int
def ratio_both_S0 (v : ratio_both_Y0) : St := ⟨[(2, .ptr 0 0), (3, .ptr 1 0)], [.cells [.int .i64 v.1, .int .i64 v.2.1], .cells [.int .i64 v.2.2.1, .int .i64 v.2.2.2]]⟩
def ratio_both_r0 (C : ratio_both_C) (v : ratio_both_Y0i) : Dt ratio_both_Y0 := (Dt.ret (v.1, v.2.1, v.2.2.1, v.2.2.2))
theorem ratio_both_g0 (C : ratio_both_C) (v : ratio_both_Y0i) : treg tysT (orc (ratio_both_tab C)) 10 (regO (bodyOf f65) 0) false [(2, .any), (3, .any)] (ratio_both_S0i v) some = (ratio_both_r0 C v).eval fun y => some (ratio_both_S0 y) := by kernel_rfl
abbrev ratio_both_Y1 : Type := Int
def ratio_both_S1 (v : ratio_both_Y1) : St := ⟨[(4, .int .i64 v)], []⟩
def ratio_both_r1 (C : ratio_both_C) (v : ratio_both_Y0) : Dt ratio_both_Y1 := (Dt.bnd (C.1 ((v.1, v.2.1, ()), ())) fun r1 => (Dt.bnd (C.1 ((v.2.2.1, v.2.2.2, ()), ())) fun r2 => (Dt.ret (tmax r1 r2))))
theorem ratio_both_g1 (C : ratio_both_C) (v : ratio_both_Y0) : treg tysT (orc (ratio_both_tab C)) 10 (regO (bodyOf f65) 1) true [(4, .any)] (ratio_both_S0 v) some = (ratio_both_r1 C v).eval fun y => some (ratio_both_S1 y) := by kernel_rfl
def F_ratio_both (d : Nat) (x : ratio_both_X) : Option ratio_both_R :=
  (ratio_both_r0 (ratio_both_K d) (x.1.1, x.1.2.1, x.2.1.1, x.2.1.2.1)).eval fun y0 =>
  (ratio_both_r1 (ratio_both_K d) y0).eval fun y1 =>
  some y1
theorem ratio_both_cok (d : Nat) : COK prog (ratio_both_sp (F_ratio_both d)) := by
  have hm : prog.follows .mixedOrders = true := mixed
  have hT := tys
  have hC0 : OrcOK prog (orc (ratio_both_tab (ratio_both_K d))) := orc_ok (by
    intro S hS
    simp only [ratio_both_tab, List.mem_cons, List.not_mem_nil, or_false] at hS
    subst hS; exact ratio_Check_cok d)
  have hC : OrcOK prog (orc (ratio_both_tab (ratio_both_K d))) := hC0
  refine cok_of (c := bodyOf f65) (fn := f65) hT (by kernel_rfl) (by kernel_rfl) (by decide) fun x r h w0 φ0 Q hend => ?_
  replace h : F_ratio_both d x = some r := h
  unfold F_ratio_both at h
  show Run prog w0 φ0 10 (bodyOf f65) ⟨[(0, .agg [.int .i64 x.1.1, .int .i64 x.1.2.1]), (1, .agg [.int .i64 x.2.1.1, .int .i64 x.2.1.2.1])], []⟩ Q
  refine run_seq ?_
  refine run_reg hm hT hC (ratio_both_g0 (ratio_both_K d) (x.1.1, x.1.2.1, x.2.1.1, x.2.1.2.1)) h ?_
  intro y0 h
  refine cn_then ?_
  refine run_seq ?_
  refine run_reg hm hT hC (ratio_both_g1 (ratio_both_K d) y0) h ?_
  intro y1 h
  refine cn_then ?_
  refine run_ret ?_
  cases h
  exact (hend _ (by kernel_rfl)).2
abbrev cmp_isNaN_int64_ps : List Pk := [.row Ri false]
abbrev cmp_isNaN_int64_X : Type := Di × Unit
abbrev cmp_isNaN_int64_R : Type := Bool
def cmp_isNaN_int64_enc (r : cmp_isNaN_int64_R) : LV × List Ob := (.bool r, [])
def cmp_isNaN_int64_sp (F : cmp_isNaN_int64_X → Option cmp_isNaN_int64_R) : Go.Tx.Spec := ⟨90, cmp_isNaN_int64_ps, cmp_isNaN_int64_R, F, cmp_isNaN_int64_enc⟩
abbrev cmp_isNaN_int64_C : Type := Unit
def cmp_isNaN_int64_K (_d : Nat) : cmp_isNaN_int64_C := ()
def cmp_isNaN_int64_tab (C : cmp_isNaN_int64_C) : List Go.Tx.Spec := []
abbrev cmp_isNaN_int64_Y0i : Type := Int
def cmp_isNaN_int64_S0i (v : cmp_isNaN_int64_Y0i) : St := ⟨[(0, .int .i64 v)], []⟩
def cmp_isNaN_int64_r0 (C : cmp_isNaN_int64_C) (v : cmp_isNaN_int64_Y0i) : Dt cmp_isNaN_int64_Y0i := (Dt.ret v)
theorem cmp_isNaN_int64_g0 (C : cmp_isNaN_int64_C) (v : cmp_isNaN_int64_Y0i) : treg tysT (orc (cmp_isNaN_int64_tab C)) 6 (regO (bodyOf f90) 0) false [(0, .any)] (cmp_isNaN_int64_S0i v) some = (cmp_isNaN_int64_r0 C v).eval fun y => some (cmp_isNaN_int64_S0i y) := by kernel_rfl
abbrev cmp_isNaN_int64_Y1 : Type := Bool
def cmp_isNaN_int64_S1 (v : cmp_isNaN_int64_Y1) : St := ⟨[(2, .bool v)], []⟩
def cmp_isNaN_int64_r1 (C : cmp_isNaN_int64_C) (v : cmp_isNaN_int64_Y0i) : Dt cmp_isNaN_int64_Y1 := (Dt.ret (v != v))
theorem cmp_isNaN_int64_g1 (C : cmp_isNaN_int64_C) (v : cmp_isNaN_int64_Y0i) : treg tysT (orc (cmp_isNaN_int64_tab C)) 6 (regO (bodyOf f90) 1) false [(2, .any)] (cmp_isNaN_int64_S0i v) some = (cmp_isNaN_int64_r1 C v).eval fun y => some (cmp_isNaN_int64_S1 y) := by kernel_rfl
def F_cmp_isNaN_int64 (d : Nat) (x : cmp_isNaN_int64_X) : Option cmp_isNaN_int64_R :=
  (cmp_isNaN_int64_r0 (cmp_isNaN_int64_K d) x.1.1).eval fun y0 =>
  (cmp_isNaN_int64_r1 (cmp_isNaN_int64_K d) y0).eval fun y1 =>
  some y1
theorem cmp_isNaN_int64_cok (d : Nat) : COK prog (cmp_isNaN_int64_sp (F_cmp_isNaN_int64 d)) := by
  have hm : prog.follows .mixedOrders = true := mixed
  have hT := tys
  have hC0 : OrcOK prog (orc (cmp_isNaN_int64_tab (cmp_isNaN_int64_K d))) := orc_ok (by
    intro S hS
    simp only [cmp_isNaN_int64_tab, List.mem_cons, List.not_mem_nil, or_false] at hS
    all_goals first | cases hS | exact hS.elim)
  have hC : OrcOK prog (orc (cmp_isNaN_int64_tab (cmp_isNaN_int64_K d))) := hC0
  refine cok_of (c := bodyOf f90) (fn := f90) hT (by kernel_rfl) (by kernel_rfl) (by decide) fun x r h w0 φ0 Q hend => ?_
  replace h : F_cmp_isNaN_int64 d x = some r := h
  unfold F_cmp_isNaN_int64 at h
  show Run prog w0 φ0 6 (bodyOf f90) ⟨[(0, .int .i64 x.1.1)], []⟩ Q
  refine run_seq ?_
  refine run_reg hm hT hC (cmp_isNaN_int64_g0 (cmp_isNaN_int64_K d) x.1.1) h ?_
  intro y0 h
  refine cn_then ?_
  refine run_seq ?_
  refine run_reg hm hT hC (cmp_isNaN_int64_g1 (cmp_isNaN_int64_K d) y0) h ?_
  intro y1 h
  refine cn_then ?_
  refine run_ret ?_
  cases h
  exact (hend _ (by kernel_rfl)).2
abbrev cmp_Compare_int64_ps : List Pk := [.row Ri false, .row Ri false]
abbrev cmp_Compare_int64_X : Type := Di × Di × Unit
abbrev cmp_Compare_int64_R : Type := Int
def cmp_Compare_int64_enc (r : cmp_Compare_int64_R) : LV × List Ob := (.int .i64 r, [])
def cmp_Compare_int64_sp (F : cmp_Compare_int64_X → Option cmp_Compare_int64_R) : Go.Tx.Spec := ⟨66, cmp_Compare_int64_ps, cmp_Compare_int64_R, F, cmp_Compare_int64_enc⟩
abbrev cmp_Compare_int64_C : Type := (cmp_isNaN_int64_X → Option cmp_isNaN_int64_R) × Unit
def cmp_Compare_int64_K (d : Nat) : cmp_Compare_int64_C := (F_cmp_isNaN_int64 d, ())
def cmp_Compare_int64_tab (C : cmp_Compare_int64_C) : List Go.Tx.Spec := [cmp_isNaN_int64_sp C.1]
abbrev cmp_Compare_int64_Y0i : Type := Int × Int
def cmp_Compare_int64_S0i (v : cmp_Compare_int64_Y0i) : St := ⟨[(0, .int .i64 v.1), (1, .int .i64 v.2)], []⟩
def cmp_Compare_int64_r0 (C : cmp_Compare_int64_C) (v : cmp_Compare_int64_Y0i) : Dt cmp_Compare_int64_Y0i := (Dt.ret (v.1, v.2))
theorem cmp_Compare_int64_g0 (C : cmp_Compare_int64_C) (v : cmp_Compare_int64_Y0i) : treg tysT (orc (cmp_Compare_int64_tab C)) 20 (regO (bodyOf f66) 0) false [(0, .any), (1, .any)] (cmp_Compare_int64_S0i v) some = (cmp_Compare_int64_r0 C v).eval fun y => some (cmp_Compare_int64_S0i y) := by kernel_rfl
abbrev cmp_Compare_int64_Y1 : Type := Int × Int × Bool
def cmp_Compare_int64_S1 (v : cmp_Compare_int64_Y1) : St := ⟨[(0, .int .i64 v.1), (1, .int .i64 v.2.1), (5, .bool v.2.2)], []⟩
def cmp_Compare_int64_r1 (C : cmp_Compare_int64_C) (v : cmp_Compare_int64_Y0i) : Dt cmp_Compare_int64_Y1 := (Dt.bnd (C.1 ((v.1, ()), ())) fun r1 => (Dt.ret (v.1, v.2, r1)))
theorem cmp_Compare_int64_g1 (C : cmp_Compare_int64_C) (v : cmp_Compare_int64_Y0i) : treg tysT (orc (cmp_Compare_int64_tab C)) 20 (regO (bodyOf f66) 1) false [(0, .any), (1, .any), (5, .any)] (cmp_Compare_int64_S0i v) some = (cmp_Compare_int64_r1 C v).eval fun y => some (cmp_Compare_int64_S1 y) := by kernel_rfl
abbrev cmp_Compare_int64_Y2 : Type := Int × Int × Bool × Bool
def cmp_Compare_int64_S2 (v : cmp_Compare_int64_Y2) : St := ⟨[(0, .int .i64 v.1), (1, .int .i64 v.2.1), (5, .bool v.2.2.1), (6, .bool v.2.2.2)], []⟩
def cmp_Compare_int64_r2 (C : cmp_Compare_int64_C) (v : cmp_Compare_int64_Y1) : Dt cmp_Compare_int64_Y2 := (Dt.bnd (C.1 ((v.2.1, ()), ())) fun r1 => (Dt.ret (v.1, v.2.1, v.2.2, r1)))
theorem cmp_Compare_int64_g2 (C : cmp_Compare_int64_C) (v : cmp_Compare_int64_Y1) : treg tysT (orc (cmp_Compare_int64_tab C)) 20 (regO (bodyOf f66) 2) false [(0, .any), (1, .any), (5, .any), (6, .any)] (cmp_Compare_int64_S1 v) some = (cmp_Compare_int64_r2 C v).eval fun y => some (cmp_Compare_int64_S2 y) := by kernel_rfl
abbrev cmp_Compare_int64_Y3 : Type := Int × Int × Bool × Bool
def cmp_Compare_int64_S3 (v : cmp_Compare_int64_Y3) : St := ⟨[(0, .int .i64 v.1), (1, .int .i64 v.2.1), (6, .bool v.2.2.1), (11, .bool v.2.2.2)], []⟩
def cmp_Compare_int64_r3 (C : cmp_Compare_int64_C) (v : cmp_Compare_int64_Y2) : Dt cmp_Compare_int64_Y3 := (Dt.ret (v.1, v.2.1, v.2.2.2, v.2.2.1))
theorem cmp_Compare_int64_g3 (C : cmp_Compare_int64_C) (v : cmp_Compare_int64_Y2) : treg tysT (orc (cmp_Compare_int64_tab C)) 20 (regO (bodyOf f66) 3) false [(0, .any), (1, .any), (6, .any), (11, .any)] (cmp_Compare_int64_S2 v) some = (cmp_Compare_int64_r3 C v).eval fun y => some (cmp_Compare_int64_S3 y) := by kernel_rfl
abbrev cmp_Compare_int64_Y4 : Type := Bool
def cmp_Compare_int64_S4 (v : cmp_Compare_int64_Y4) : St := ⟨[(12, .bool v)], []⟩
def cmp_Compare_int64_r4 (C : cmp_Compare_int64_C) (v : cmp_Compare_int64_Y3) : Dt cmp_Compare_int64_Y4 := (Dt.ret v.2.2.1)
theorem cmp_Compare_int64_g4 (C : cmp_Compare_int64_C) (v : cmp_Compare_int64_Y3) : treg tysT (orc (cmp_Compare_int64_tab C)) 20 (regO (bodyOf f66) 4) false [(12, .any)] (cmp_Compare_int64_S3 v) some = (cmp_Compare_int64_r4 C v).eval fun y => some (cmp_Compare_int64_S4 y) := by kernel_rfl
abbrev cmp_Compare_int64_Y5 : Type := Int
def cmp_Compare_int64_S5 (v : cmp_Compare_int64_Y5) : St := ⟨[(4, .int .i64 v)], []⟩
def cmp_Compare_int64_r5 (C : cmp_Compare_int64_C) (v : cmp_Compare_int64_Y4) : Dt cmp_Compare_int64_Y5 := (Dt.ret (0:Int))
theorem cmp_Compare_int64_g5 (C : cmp_Compare_int64_C) (v : cmp_Compare_int64_Y4) : treg tysT (orc (cmp_Compare_int64_tab C)) 20 (regO (bodyOf f66) 5) false [(4, .any)] (cmp_Compare_int64_S4 v) some = (cmp_Compare_int64_r5 C v).eval fun y => some (cmp_Compare_int64_S5 y) := by kernel_rfl
def cmp_Compare_int64_r6 (C : cmp_Compare_int64_C) (v : cmp_Compare_int64_Y4) : Dt cmp_Compare_int64_Y5 := (Dt.ret (-1:Int))
theorem cmp_Compare_int64_g6 (C : cmp_Compare_int64_C) (v : cmp_Compare_int64_Y4) : treg tysT (orc (cmp_Compare_int64_tab C)) 20 (regO (bodyOf f66) 6) false [(4, .any)] (cmp_Compare_int64_S4 v) some = (cmp_Compare_int64_r6 C v).eval fun y => some (cmp_Compare_int64_S5 y) := by kernel_rfl
abbrev cmp_Compare_int64_Y7 : Type := Int × Int × Bool
def cmp_Compare_int64_S7 (v : cmp_Compare_int64_Y7) : St := ⟨[(0, .int .i64 v.1), (1, .int .i64 v.2.1), (13, .bool v.2.2)], []⟩
def cmp_Compare_int64_r7 (C : cmp_Compare_int64_C) (v : cmp_Compare_int64_Y3) : Dt cmp_Compare_int64_Y7 := (Dt.ret (v.1, v.2.1, v.2.2.1))
theorem cmp_Compare_int64_g7 (C : cmp_Compare_int64_C) (v : cmp_Compare_int64_Y3) : treg tysT (orc (cmp_Compare_int64_tab C)) 20 (regO (bodyOf f66) 7) false [(0, .any), (1, .any), (13, .any)] (cmp_Compare_int64_S3 v) some = (cmp_Compare_int64_r7 C v).eval fun y => some (cmp_Compare_int64_S7 y) := by kernel_rfl
def cmp_Compare_int64_r8 (C : cmp_Compare_int64_C) (v : cmp_Compare_int64_Y7) : Dt cmp_Compare_int64_Y5 := (Dt.ret (1:Int))
theorem cmp_Compare_int64_g8 (C : cmp_Compare_int64_C) (v : cmp_Compare_int64_Y7) : treg tysT (orc (cmp_Compare_int64_tab C)) 20 (regO (bodyOf f66) 8) false [(4, .any)] (cmp_Compare_int64_S7 v) some = (cmp_Compare_int64_r8 C v).eval fun y => some (cmp_Compare_int64_S5 y) := by kernel_rfl
abbrev cmp_Compare_int64_Y9 : Type := Int × Int × Bool
def cmp_Compare_int64_S9 (v : cmp_Compare_int64_Y9) : St := ⟨[(0, .int .i64 v.1), (1, .int .i64 v.2.1), (16, .bool v.2.2)], []⟩
def cmp_Compare_int64_r9 (C : cmp_Compare_int64_C) (v : cmp_Compare_int64_Y7) : Dt cmp_Compare_int64_Y9 := (Dt.ret (v.1, v.2.1, (decide (v.1 < v.2.1))))
theorem cmp_Compare_int64_g9 (C : cmp_Compare_int64_C) (v : cmp_Compare_int64_Y7) : treg tysT (orc (cmp_Compare_int64_tab C)) 20 (regO (bodyOf f66) 9) false [(0, .any), (1, .any), (16, .any)] (cmp_Compare_int64_S7 v) some = (cmp_Compare_int64_r9 C v).eval fun y => some (cmp_Compare_int64_S9 y) := by kernel_rfl
def cmp_Compare_int64_r10 (C : cmp_Compare_int64_C) (v : cmp_Compare_int64_Y9) : Dt cmp_Compare_int64_Y5 := (Dt.ret (-1:Int))
theorem cmp_Compare_int64_g10 (C : cmp_Compare_int64_C) (v : cmp_Compare_int64_Y9) : treg tysT (orc (cmp_Compare_int64_tab C)) 20 (regO (bodyOf f66) 10) false [(4, .any)] (cmp_Compare_int64_S9 v) some = (cmp_Compare_int64_r10 C v).eval fun y => some (cmp_Compare_int64_S5 y) := by kernel_rfl
abbrev cmp_Compare_int64_Y11 : Type := Bool
def cmp_Compare_int64_S11 (v : cmp_Compare_int64_Y11) : St := ⟨[(19, .bool v)], []⟩
def cmp_Compare_int64_r11 (C : cmp_Compare_int64_C) (v : cmp_Compare_int64_Y9) : Dt cmp_Compare_int64_Y11 := (Dt.ret (decide (v.1 > v.2.1)))
theorem cmp_Compare_int64_g11 (C : cmp_Compare_int64_C) (v : cmp_Compare_int64_Y9) : treg tysT (orc (cmp_Compare_int64_tab C)) 20 (regO (bodyOf f66) 11) false [(19, .any)] (cmp_Compare_int64_S9 v) some = (cmp_Compare_int64_r11 C v).eval fun y => some (cmp_Compare_int64_S11 y) := by kernel_rfl
def cmp_Compare_int64_r12 (C : cmp_Compare_int64_C) (v : cmp_Compare_int64_Y11) : Dt cmp_Compare_int64_Y5 := (Dt.ret (1:Int))
theorem cmp_Compare_int64_g12 (C : cmp_Compare_int64_C) (v : cmp_Compare_int64_Y11) : treg tysT (orc (cmp_Compare_int64_tab C)) 20 (regO (bodyOf f66) 12) false [(4, .any)] (cmp_Compare_int64_S11 v) some = (cmp_Compare_int64_r12 C v).eval fun y => some (cmp_Compare_int64_S5 y) := by kernel_rfl
def cmp_Compare_int64_r13 (C : cmp_Compare_int64_C) (v : cmp_Compare_int64_Y11) : Dt cmp_Compare_int64_Y5 := (Dt.ret (0:Int))
theorem cmp_Compare_int64_g13 (C : cmp_Compare_int64_C) (v : cmp_Compare_int64_Y11) : treg tysT (orc (cmp_Compare_int64_tab C)) 20 (regO (bodyOf f66) 13) false [(4, .any)] (cmp_Compare_int64_S11 v) some = (cmp_Compare_int64_r13 C v).eval fun y => some (cmp_Compare_int64_S5 y) := by kernel_rfl
def F_cmp_Compare_int64 (d : Nat) (x : cmp_Compare_int64_X) : Option cmp_Compare_int64_R :=
  (cmp_Compare_int64_r0 (cmp_Compare_int64_K d) (x.1.1, x.2.1.1)).eval fun y0 =>
  (cmp_Compare_int64_r1 (cmp_Compare_int64_K d) y0).eval fun y1 =>
  (cmp_Compare_int64_r2 (cmp_Compare_int64_K d) y1).eval fun y2 =>
  (cmp_Compare_int64_r3 (cmp_Compare_int64_K d) y2).eval fun y3 =>
  bif y3.2.2.2 then ((cmp_Compare_int64_r4 (cmp_Compare_int64_K d) y3).eval fun y4 =>
  bif y4 then ((cmp_Compare_int64_r5 (cmp_Compare_int64_K d) y4).eval fun y5 =>
  some y5) else ((cmp_Compare_int64_r6 (cmp_Compare_int64_K d) y4).eval fun y6 =>
  some y6)) else ((cmp_Compare_int64_r7 (cmp_Compare_int64_K d) y3).eval fun y7 =>
  bif y7.2.2 then ((cmp_Compare_int64_r8 (cmp_Compare_int64_K d) y7).eval fun y8 =>
  some y8) else ((cmp_Compare_int64_r9 (cmp_Compare_int64_K d) y7).eval fun y9 =>
  bif y9.2.2 then ((cmp_Compare_int64_r10 (cmp_Compare_int64_K d) y9).eval fun y10 =>
  some y10) else ((cmp_Compare_int64_r11 (cmp_Compare_int64_K d) y9).eval fun y11 =>
  bif y11 then ((cmp_Compare_int64_r12 (cmp_Compare_int64_K d) y11).eval fun y12 =>
  some y12) else ((cmp_Compare_int64_r13 (cmp_Compare_int64_K d) y11).eval fun y13 =>
  some y13))))
theorem cmp_Compare_int64_cok (d : Nat) : COK prog (cmp_Compare_int64_sp (F_cmp_Compare_int64 d)) := by
  have hm : prog.follows .mixedOrders = true := mixed
  have hT := tys
  have hC0 : OrcOK prog (orc (cmp_Compare_int64_tab (cmp_Compare_int64_K d))) := orc_ok (by
    intro S hS
    simp only [cmp_Compare_int64_tab, List.mem_cons, List.not_mem_nil, or_false] at hS
    subst hS; exact cmp_isNaN_int64_cok d)
  have hC : OrcOK prog (orc (cmp_Compare_int64_tab (cmp_Compare_int64_K d))) := hC0
  refine cok_of (c := bodyOf f66) (fn := f66) hT (by kernel_rfl) (by kernel_rfl) (by decide) fun x r h w0 φ0 Q hend => ?_
  replace h : F_cmp_Compare_int64 d x = some r := h
  unfold F_cmp_Compare_int64 at h
  show Run prog w0 φ0 20 (bodyOf f66) ⟨[(0, .int .i64 x.1.1), (1, .int .i64 x.2.1.1)], []⟩ Q
  refine run_seq ?_
  refine run_reg hm hT hC (cmp_Compare_int64_g0 (cmp_Compare_int64_K d) (x.1.1, x.2.1.1)) h ?_
  intro y0 h
  refine cn_then ?_
  refine run_seq ?_
  refine run_reg hm hT hC (cmp_Compare_int64_g1 (cmp_Compare_int64_K d) y0) h ?_
  intro y1 h
  refine cn_then ?_
  refine run_seq ?_
  refine run_reg hm hT hC (cmp_Compare_int64_g2 (cmp_Compare_int64_K d) y1) h ?_
  intro y2 h
  refine cn_then ?_
  refine run_seq ?_
  refine run_seq ?_
  refine run_reg hm hT hC (cmp_Compare_int64_g3 (cmp_Compare_int64_K d) y2) h ?_
  intro y3 h
  refine cn_then ?_
  refine run_cond (v := y3.2.2.2) (by kernel_rfl) h ?_ ?_
  ·
    intro h
    refine run_seq ?_
    refine run_seq ?_
    refine run_reg hm hT hC (cmp_Compare_int64_g4 (cmp_Compare_int64_K d) y3) h ?_
    intro y4 h
    refine cn_then ?_
    refine run_cond (v := y4) (by kernel_rfl) h ?_ ?_
    ·
      intro h
      refine run_seq ?_
      refine run_reg hm hT hC (cmp_Compare_int64_g5 (cmp_Compare_int64_K d) y4) h ?_
      intro y5 h
      refine cn_then ?_
      refine run_ret ?_
      refine cn_then_ret ?_
      refine cn_then_ret ?_
      cases h
      exact (hend _ (by kernel_rfl)).2
    ·
      intro h
      refine run_skip ?_
      refine cn_then ?_
      refine run_seq ?_
      refine run_reg hm hT hC (cmp_Compare_int64_g6 (cmp_Compare_int64_K d) y4) h ?_
      intro y6 h
      refine cn_then ?_
      refine run_ret ?_
      refine cn_then_ret ?_
      cases h
      exact (hend _ (by kernel_rfl)).2
  ·
    intro h
    refine run_skip ?_
    refine cn_then ?_
    refine run_seq ?_
    refine run_seq ?_
    refine run_reg hm hT hC (cmp_Compare_int64_g7 (cmp_Compare_int64_K d) y3) h ?_
    intro y7 h
    refine cn_then ?_
    refine run_cond (v := y7.2.2) (by kernel_rfl) h ?_ ?_
    ·
      intro h
      refine run_seq ?_
      refine run_reg hm hT hC (cmp_Compare_int64_g8 (cmp_Compare_int64_K d) y7) h ?_
      intro y8 h
      refine cn_then ?_
      refine run_ret ?_
      refine cn_then_ret ?_
      cases h
      exact (hend _ (by kernel_rfl)).2
    ·
      intro h
      refine run_skip ?_
      refine cn_then ?_
      refine run_seq ?_
      refine run_seq ?_
      refine run_reg hm hT hC (cmp_Compare_int64_g9 (cmp_Compare_int64_K d) y7) h ?_
      intro y9 h
      refine cn_then ?_
      refine run_cond (v := y9.2.2) (by kernel_rfl) h ?_ ?_
      ·
        intro h
        refine run_seq ?_
        refine run_reg hm hT hC (cmp_Compare_int64_g10 (cmp_Compare_int64_K d) y9) h ?_
        intro y10 h
        refine cn_then ?_
        refine run_ret ?_
        refine cn_then_ret ?_
        cases h
        exact (hend _ (by kernel_rfl)).2
      ·
        intro h
        refine run_skip ?_
        refine cn_then ?_
        refine run_seq ?_
        refine run_seq ?_
        refine run_reg hm hT hC (cmp_Compare_int64_g11 (cmp_Compare_int64_K d) y9) h ?_
        intro y11 h
        refine cn_then ?_
        refine run_cond (v := y11) (by kernel_rfl) h ?_ ?_
        ·
          intro h
          refine run_seq ?_
          refine run_reg hm hT hC (cmp_Compare_int64_g12 (cmp_Compare_int64_K d) y11) h ?_
          intro y12 h
          refine cn_then ?_
          refine run_ret ?_
          refine cn_then_ret ?_
          cases h
          exact (hend _ (by kernel_rfl)).2
        ·
          intro h
          refine run_skip ?_
          refine cn_then ?_
          refine run_seq ?_
          refine run_reg hm hT hC (cmp_Compare_int64_g13 (cmp_Compare_int64_K d) y11) h ?_
          intro y13 h
          refine cn_then ?_
          refine run_ret ?_
          cases h
          exact (hend _ (by kernel_rfl)).2
abbrev ratio_abs_ps : List Pk := [.row Ri false]
abbrev ratio_abs_X : Type := Di × Unit
abbrev ratio_abs_R : Type := Int
def ratio_abs_enc (r : ratio_abs_R) : LV × List Ob := (.int .u64 r, [])
def ratio_abs_sp (F : ratio_abs_X → Option ratio_abs_R) : Go.Tx.Spec := ⟨51, ratio_abs_ps, ratio_abs_R, F, ratio_abs_enc⟩
abbrev ratio_abs_C : Type := Unit
def ratio_abs_K (_d : Nat) : ratio_abs_C := ()
def ratio_abs_tab (C : ratio_abs_C) : List Go.Tx.Spec := []
abbrev ratio_abs_Y0i : Type := Int
def ratio_abs_S0i (v : ratio_abs_Y0i) : St := ⟨[(0, .int .i64 v)], []⟩
def ratio_abs_r0 (C : ratio_abs_C) (v : ratio_abs_Y0i) : Dt ratio_abs_Y0i := (Dt.ret v)
theorem ratio_abs_g0 (C : ratio_abs_C) (v : ratio_abs_Y0i) : treg tysT (orc (ratio_abs_tab C)) 10 (regO (bodyOf f51) 0) false [(0, .any)] (ratio_abs_S0i v) some = (ratio_abs_r0 C v).eval fun y => some (ratio_abs_S0i y) := by kernel_rfl
abbrev ratio_abs_Y1 : Type := Int × Bool
def ratio_abs_S1 (v : ratio_abs_Y1) : St := ⟨[(0, .int .i64 v.1), (4, .bool v.2)], []⟩
def ratio_abs_r1 (C : ratio_abs_C) (v : ratio_abs_Y0i) : Dt ratio_abs_Y1 := (Dt.ret (v, (decide (v < (0:Int)))))
theorem ratio_abs_g1 (C : ratio_abs_C) (v : ratio_abs_Y0i) : treg tysT (orc (ratio_abs_tab C)) 10 (regO (bodyOf f51) 1) false [(0, .any), (4, .any)] (ratio_abs_S0i v) some = (ratio_abs_r1 C v).eval fun y => some (ratio_abs_S1 y) := by kernel_rfl
abbrev ratio_abs_Y2 : Type := Int
def ratio_abs_S2 (v : ratio_abs_Y2) : St := ⟨[(2, .int .u64 v)], []⟩
def ratio_abs_r2 (C : ratio_abs_C) (v : ratio_abs_Y1) : Dt ratio_abs_Y2 := (Dt.ret (IntKind.wrap .u64 (0 - (IntKind.wrap .u64 v.1))))
theorem ratio_abs_g2 (C : ratio_abs_C) (v : ratio_abs_Y1) : treg tysT (orc (ratio_abs_tab C)) 10 (regO (bodyOf f51) 2) false [(2, .any)] (ratio_abs_S1 v) some = (ratio_abs_r2 C v).eval fun y => some (ratio_abs_S2 y) := by kernel_rfl
def ratio_abs_r3 (C : ratio_abs_C) (v : ratio_abs_Y1) : Dt ratio_abs_Y2 := (Dt.ret (IntKind.wrap .u64 v.1))
theorem ratio_abs_g3 (C : ratio_abs_C) (v : ratio_abs_Y1) : treg tysT (orc (ratio_abs_tab C)) 10 (regO (bodyOf f51) 3) false [(2, .any)] (ratio_abs_S1 v) some = (ratio_abs_r3 C v).eval fun y => some (ratio_abs_S2 y) := by kernel_rfl
def F_ratio_abs (d : Nat) (x : ratio_abs_X) : Option ratio_abs_R :=
  (ratio_abs_r0 (ratio_abs_K d) x.1.1).eval fun y0 =>
  (ratio_abs_r1 (ratio_abs_K d) y0).eval fun y1 =>
  bif y1.2 then ((ratio_abs_r2 (ratio_abs_K d) y1).eval fun y2 =>
  some y2) else ((ratio_abs_r3 (ratio_abs_K d) y1).eval fun y3 =>
  some y3)
theorem ratio_abs_cok (d : Nat) : COK prog (ratio_abs_sp (F_ratio_abs d)) := by
  have hm : prog.follows .mixedOrders = true := mixed
  have hT := tys
  have hC0 : OrcOK prog (orc (ratio_abs_tab (ratio_abs_K d))) := orc_ok (by
    intro S hS
    simp only [ratio_abs_tab, List.mem_cons, List.not_mem_nil, or_false] at hS
    all_goals first | cases hS | exact hS.elim)
  have hC : OrcOK prog (orc (ratio_abs_tab (ratio_abs_K d))) := hC0
  refine cok_of (c := bodyOf f51) (fn := f51) hT (by kernel_rfl) (by kernel_rfl) (by decide) fun x r h w0 φ0 Q hend => ?_
  replace h : F_ratio_abs d x = some r := h
  unfold F_ratio_abs at h
  show Run prog w0 φ0 10 (bodyOf f51) ⟨[(0, .int .i64 x.1.1)], []⟩ Q
  refine run_seq ?_
  refine run_reg hm hT hC (ratio_abs_g0 (ratio_abs_K d) x.1.1) h ?_
  intro y0 h
  refine cn_then ?_
  refine run_seq ?_
  refine run_seq ?_
  refine run_reg hm hT hC (ratio_abs_g1 (ratio_abs_K d) y0) h ?_
  intro y1 h
  refine cn_then ?_
  refine run_cond (v := y1.2) (by kernel_rfl) h ?_ ?_
  ·
    intro h
    refine run_seq ?_
    refine run_reg hm hT hC (ratio_abs_g2 (ratio_abs_K d) y1) h ?_
    intro y2 h
    refine cn_then ?_
    refine run_ret ?_
    refine cn_then_ret ?_
    cases h
    exact (hend _ (by kernel_rfl)).2
  ·
    intro h
    refine run_skip ?_
    refine cn_then ?_
    refine run_seq ?_
    refine run_reg hm hT hC (ratio_abs_g3 (ratio_abs_K d) y1) h ?_
    intro y3 h
    refine cn_then ?_
    refine run_ret ?_
    cases h
    exact (hend _ (by kernel_rfl)).2
abbrev ratio_times_ps : List Pk := [.row Ri false, .row Ri false]
abbrev ratio_times_X : Type := Di × Di × Unit
abbrev ratio_times_R : Type := Bool × Int × Int
def ratio_times_enc (r : ratio_times_R) : LV × List Ob := (.agg [.bool r.1, .int .u64 r.2.1, .int .u64 r.2.2], [])
def ratio_times_sp (F : ratio_times_X → Option ratio_times_R) : Go.Tx.Spec := ⟨68, ratio_times_ps, ratio_times_R, F, ratio_times_enc⟩
abbrev ratio_times_C : Type := (ratio_abs_X → Option ratio_abs_R) × (math_bits_Mul64_X → Option math_bits_Mul64_R) × Unit
def ratio_times_K (d : Nat) : ratio_times_C := (F_ratio_abs d, F_math_bits_Mul64 d, ())
def ratio_times_tab (C : ratio_times_C) : List Go.Tx.Spec := [ratio_abs_sp C.1, math_bits_Mul64_sp C.2.1]
abbrev ratio_times_Y0i : Type := Int × Int
def ratio_times_S0i (v : ratio_times_Y0i) : St := ⟨[(0, .int .i64 v.1), (1, .int .i64 v.2)], []⟩
abbrev ratio_times_Y0 : Type := Int × Int × Bool × Int × Int
def ratio_times_S0 (v : ratio_times_Y0) : St := ⟨[(0, .int .i64 v.1), (1, .int .i64 v.2.1), (4, .ptr 0 0)], [.cells [.bool v.2.2.1, .int .u64 v.2.2.2.1, .int .u64 v.2.2.2.2]]⟩
def ratio_times_r0 (C : ratio_times_C) (v : ratio_times_Y0i) : Dt ratio_times_Y0 := (Dt.ret (v.1, v.2, false, (0:Int), (0:Int)))
theorem ratio_times_g0 (C : ratio_times_C) (v : ratio_times_Y0i) : treg tysT (orc (ratio_times_tab C)) 23 (regO (bodyOf f68) 0) false [(0, .any), (1, .any), (4, .any)] (ratio_times_S0i v) some = (ratio_times_r0 C v).eval fun y => some (ratio_times_S0 y) := by kernel_rfl
abbrev ratio_times_Y1 : Type := Int × Int × Int × Int × Bool × Int × Int
def ratio_times_S1 (v : ratio_times_Y1) : St := ⟨[(0, .int .i64 v.1), (1, .int .i64 v.2.1), (4, .ptr 0 0), (5, .int .u64 v.2.2.1), (6, .int .u64 v.2.2.2.1)], [.cells [.bool v.2.2.2.2.1, .int .u64 v.2.2.2.2.2.1, .int .u64 v.2.2.2.2.2.2]]⟩
def ratio_times_r1 (C : ratio_times_C) (v : ratio_times_Y0) : Dt ratio_times_Y1 := (Dt.bnd (C.1 ((v.1, ()), ())) fun r1 => (Dt.bnd (C.1 ((v.2.1, ()), ())) fun r2 => (Dt.bnd (C.2.1 ((r1, ()), (r2, ()), ())) fun r3 => (Dt.ret (v.1, v.2.1, r3.1, r3.2, v.2.2.1, v.2.2.2.1, v.2.2.2.2)))))
theorem ratio_times_g1 (C : ratio_times_C) (v : ratio_times_Y0) : treg tysT (orc (ratio_times_tab C)) 23 (regO (bodyOf f68) 1) false [(0, .any), (1, .any), (4, .any), (5, .any), (6, .any)] (ratio_times_S0 v) some = (ratio_times_r1 C v).eval fun y => some (ratio_times_S1 y) := by kernel_rfl
abbrev ratio_times_Y2 : Type := Bool × Int × Int
def ratio_times_S2 (v : ratio_times_Y2) : St := ⟨[(4, .ptr 0 0)], [.cells [.bool v.1, .int .u64 v.2.1, .int .u64 v.2.2]]⟩
def ratio_times_r2 (C : ratio_times_C) (v : ratio_times_Y1) : Dt ratio_times_Y2 := (Dt.ret ((!((decide (v.1 < (0:Int))) == (decide (v.2.1 < (0:Int))))), v.2.2.1, v.2.2.2.1))
theorem ratio_times_g2 (C : ratio_times_C) (v : ratio_times_Y1) : treg tysT (orc (ratio_times_tab C)) 23 (regO (bodyOf f68) 2) false [(4, .any)] (ratio_times_S1 v) some = (ratio_times_r2 C v).eval fun y => some (ratio_times_S2 y) := by kernel_rfl
def F_ratio_times (d : Nat) (x : ratio_times_X) : Option ratio_times_R :=
  (ratio_times_r0 (ratio_times_K d) (x.1.1, x.2.1.1)).eval fun y0 =>
  (ratio_times_r1 (ratio_times_K d) y0).eval fun y1 =>
  (ratio_times_r2 (ratio_times_K d) y1).eval fun y2 =>
  some y2
theorem ratio_times_cok (d : Nat) : COK prog (ratio_times_sp (F_ratio_times d)) := by
  have hm : prog.follows .mixedOrders = true := mixed
  have hT := tys
  have hC0 : OrcOK prog (orc (ratio_times_tab (ratio_times_K d))) := orc_ok (by
    intro S hS
    simp only [ratio_times_tab, List.mem_cons, List.not_mem_nil, or_false] at hS
    rcases hS with rfl | rfl
    · exact ratio_abs_cok d
    · exact math_bits_Mul64_cok d)
  have hC : OrcOK prog (orc (ratio_times_tab (ratio_times_K d))) := hC0
  refine cok_of (c := bodyOf f68) (fn := f68) hT (by kernel_rfl) (by kernel_rfl) (by decide) fun x r h w0 φ0 Q hend => ?_
  replace h : F_ratio_times d x = some r := h
  unfold F_ratio_times at h
  show Run prog w0 φ0 23 (bodyOf f68) ⟨[(0, .int .i64 x.1.1), (1, .int .i64 x.2.1.1)], []⟩ Q
  refine run_seq ?_
  refine run_reg hm hT hC (ratio_times_g0 (ratio_times_K d) (x.1.1, x.2.1.1)) h ?_
  intro y0 h
  refine cn_then ?_
  refine run_seq ?_
  refine run_reg hm hT hC (ratio_times_g1 (ratio_times_K d) y0) h ?_
  intro y1 h
  refine cn_then ?_
  refine run_seq ?_
  refine run_reg hm hT hC (ratio_times_g2 (ratio_times_K d) y1) h ?_
  intro y2 h
  refine cn_then ?_
  refine run_ret ?_
  cases h
  exact (hend _ (by kernel_rfl)).2
abbrev cmp_isNaN_uint64_ps : List Pk := [.row Ru false]
abbrev cmp_isNaN_uint64_X : Type := Du × Unit
abbrev cmp_isNaN_uint64_R : Type := Bool
def cmp_isNaN_uint64_enc (r : cmp_isNaN_uint64_R) : LV × List Ob := (.bool r, [])
def cmp_isNaN_uint64_sp (F : cmp_isNaN_uint64_X → Option cmp_isNaN_uint64_R) : Go.Tx.Spec := ⟨102, cmp_isNaN_uint64_ps, cmp_isNaN_uint64_R, F, cmp_isNaN_uint64_enc⟩
abbrev cmp_isNaN_uint64_C : Type := Unit
def cmp_isNaN_uint64_K (_d : Nat) : cmp_isNaN_uint64_C := ()
def cmp_isNaN_uint64_tab (C : cmp_isNaN_uint64_C) : List Go.Tx.Spec := []
abbrev cmp_isNaN_uint64_Y0i : Type := Int
def cmp_isNaN_uint64_S0i (v : cmp_isNaN_uint64_Y0i) : St := ⟨[(0, .int .u64 v)], []⟩
def cmp_isNaN_uint64_r0 (C : cmp_isNaN_uint64_C) (v : cmp_isNaN_uint64_Y0i) : Dt cmp_isNaN_uint64_Y0i := (Dt.ret v)
theorem cmp_isNaN_uint64_g0 (C : cmp_isNaN_uint64_C) (v : cmp_isNaN_uint64_Y0i) : treg tysT (orc (cmp_isNaN_uint64_tab C)) 6 (regO (bodyOf f102) 0) false [(0, .any)] (cmp_isNaN_uint64_S0i v) some = (cmp_isNaN_uint64_r0 C v).eval fun y => some (cmp_isNaN_uint64_S0i y) := by kernel_rfl
abbrev cmp_isNaN_uint64_Y1 : Type := Bool
def cmp_isNaN_uint64_S1 (v : cmp_isNaN_uint64_Y1) : St := ⟨[(2, .bool v)], []⟩
def cmp_isNaN_uint64_r1 (C : cmp_isNaN_uint64_C) (v : cmp_isNaN_uint64_Y0i) : Dt cmp_isNaN_uint64_Y1 := (Dt.ret (v != v))
theorem cmp_isNaN_uint64_g1 (C : cmp_isNaN_uint64_C) (v : cmp_isNaN_uint64_Y0i) : treg tysT (orc (cmp_isNaN_uint64_tab C)) 6 (regO (bodyOf f102) 1) false [(2, .any)] (cmp_isNaN_uint64_S0i v) some = (cmp_isNaN_uint64_r1 C v).eval fun y => some (cmp_isNaN_uint64_S1 y) := by kernel_rfl
def F_cmp_isNaN_uint64 (d : Nat) (x : cmp_isNaN_uint64_X) : Option cmp_isNaN_uint64_R :=
  (cmp_isNaN_uint64_r0 (cmp_isNaN_uint64_K d) x.1.1).eval fun y0 =>
  (cmp_isNaN_uint64_r1 (cmp_isNaN_uint64_K d) y0).eval fun y1 =>
  some y1
theorem cmp_isNaN_uint64_cok (d : Nat) : COK prog (cmp_isNaN_uint64_sp (F_cmp_isNaN_uint64 d)) := by
  have hm : prog.follows .mixedOrders = true := mixed
  have hT := tys
  have hC0 : OrcOK prog (orc (cmp_isNaN_uint64_tab (cmp_isNaN_uint64_K d))) := orc_ok (by
    intro S hS
    simp only [cmp_isNaN_uint64_tab, List.mem_cons, List.not_mem_nil, or_false] at hS
    all_goals first | cases hS | exact hS.elim)
  have hC : OrcOK prog (orc (cmp_isNaN_uint64_tab (cmp_isNaN_uint64_K d))) := hC0
  refine cok_of (c := bodyOf f102) (fn := f102) hT (by kernel_rfl) (by kernel_rfl) (by decide) fun x r h w0 φ0 Q hend => ?_
  replace h : F_cmp_isNaN_uint64 d x = some r := h
  unfold F_cmp_isNaN_uint64 at h
  show Run prog w0 φ0 6 (bodyOf f102) ⟨[(0, .int .u64 x.1.1)], []⟩ Q
  refine run_seq ?_
  refine run_reg hm hT hC (cmp_isNaN_uint64_g0 (cmp_isNaN_uint64_K d) x.1.1) h ?_
  intro y0 h
  refine cn_then ?_
  refine run_seq ?_
  refine run_reg hm hT hC (cmp_isNaN_uint64_g1 (cmp_isNaN_uint64_K d) y0) h ?_
  intro y1 h
  refine cn_then ?_
  refine run_ret ?_
  cases h
  exact (hend _ (by kernel_rfl)).2
abbrev cmp_Compare_uint64_ps : List Pk := [.row Ru false, .row Ru false]
abbrev cmp_Compare_uint64_X : Type := Du × Du × Unit
abbrev cmp_Compare_uint64_R : Type := Int
def cmp_Compare_uint64_enc (r : cmp_Compare_uint64_R) : LV × List Ob := (.int .i64 r, [])
def cmp_Compare_uint64_sp (F : cmp_Compare_uint64_X → Option cmp_Compare_uint64_R) : Go.Tx.Spec := ⟨91, cmp_Compare_uint64_ps, cmp_Compare_uint64_R, F, cmp_Compare_uint64_enc⟩
abbrev cmp_Compare_uint64_C : Type := (cmp_isNaN_uint64_X → Option cmp_isNaN_uint64_R) × Unit
def cmp_Compare_uint64_K (d : Nat) : cmp_Compare_uint64_C := (F_cmp_isNaN_uint64 d, ())
def cmp_Compare_uint64_tab (C : cmp_Compare_uint64_C) : List Go.Tx.Spec := [cmp_isNaN_uint64_sp C.1]
abbrev cmp_Compare_uint64_Y0i : Type := Int × Int
def cmp_Compare_uint64_S0i (v : cmp_Compare_uint64_Y0i) : St := ⟨[(0, .int .u64 v.1), (1, .int .u64 v.2)], []⟩
def cmp_Compare_uint64_r0 (C : cmp_Compare_uint64_C) (v : cmp_Compare_uint64_Y0i) : Dt cmp_Compare_uint64_Y0i := (Dt.ret (v.1, v.2))
theorem cmp_Compare_uint64_g0 (C : cmp_Compare_uint64_C) (v : cmp_Compare_uint64_Y0i) : treg tysT (orc (cmp_Compare_uint64_tab C)) 20 (regO (bodyOf f91) 0) false [(0, .any), (1, .any)] (cmp_Compare_uint64_S0i v) some = (cmp_Compare_uint64_r0 C v).eval fun y => some (cmp_Compare_uint64_S0i y) := by kernel_rfl
abbrev cmp_Compare_uint64_Y1 : Type := Int × Int × Bool
def cmp_Compare_uint64_S1 (v : cmp_Compare_uint64_Y1) : St := ⟨[(0, .int .u64 v.1), (1, .int .u64 v.2.1), (5, .bool v.2.2)], []⟩
def cmp_Compare_uint64_r1 (C : cmp_Compare_uint64_C) (v : cmp_Compare_uint64_Y0i) : Dt cmp_Compare_uint64_Y1 := (Dt.bnd (C.1 ((v.1, ()), ())) fun r1 => (Dt.ret (v.1, v.2, r1)))
theorem cmp_Compare_uint64_g1 (C : cmp_Compare_uint64_C) (v : cmp_Compare_uint64_Y0i) : treg tysT (orc (cmp_Compare_uint64_tab C)) 20 (regO (bodyOf f91) 1) false [(0, .any), (1, .any), (5, .any)] (cmp_Compare_uint64_S0i v) some = (cmp_Compare_uint64_r1 C v).eval fun y => some (cmp_Compare_uint64_S1 y) := by kernel_rfl
abbrev cmp_Compare_uint64_Y2 : Type := Int × Int × Bool × Bool
def cmp_Compare_uint64_S2 (v : cmp_Compare_uint64_Y2) : St := ⟨[(0, .int .u64 v.1), (1, .int .u64 v.2.1), (5, .bool v.2.2.1), (6, .bool v.2.2.2)], []⟩
def cmp_Compare_uint64_r2 (C : cmp_Compare_uint64_C) (v : cmp_Compare_uint64_Y1) : Dt cmp_Compare_uint64_Y2 := (Dt.bnd (C.1 ((v.2.1, ()), ())) fun r1 => (Dt.ret (v.1, v.2.1, v.2.2, r1)))
theorem cmp_Compare_uint64_g2 (C : cmp_Compare_uint64_C) (v : cmp_Compare_uint64_Y1) : treg tysT (orc (cmp_Compare_uint64_tab C)) 20 (regO (bodyOf f91) 2) false [(0, .any), (1, .any), (5, .any), (6, .any)] (cmp_Compare_uint64_S1 v) some = (cmp_Compare_uint64_r2 C v).eval fun y => some (cmp_Compare_uint64_S2 y) := by kernel_rfl
abbrev cmp_Compare_uint64_Y3 : Type := Int × Int × Bool × Bool
def cmp_Compare_uint64_S3 (v : cmp_Compare_uint64_Y3) : St := ⟨[(0, .int .u64 v.1), (1, .int .u64 v.2.1), (6, .bool v.2.2.1), (11, .bool v.2.2.2)], []⟩
def cmp_Compare_uint64_r3 (C : cmp_Compare_uint64_C) (v : cmp_Compare_uint64_Y2) : Dt cmp_Compare_uint64_Y3 := (Dt.ret (v.1, v.2.1, v.2.2.2, v.2.2.1))
theorem cmp_Compare_uint64_g3 (C : cmp_Compare_uint64_C) (v : cmp_Compare_uint64_Y2) : treg tysT (orc (cmp_Compare_uint64_tab C)) 20 (regO (bodyOf f91) 3) false [(0, .any), (1, .any), (6, .any), (11, .any)] (cmp_Compare_uint64_S2 v) some = (cmp_Compare_uint64_r3 C v).eval fun y => some (cmp_Compare_uint64_S3 y) := by kernel_rfl
abbrev cmp_Compare_uint64_Y4 : Type := Bool
def cmp_Compare_uint64_S4 (v : cmp_Compare_uint64_Y4) : St := ⟨[(12, .bool v)], []⟩
def cmp_Compare_uint64_r4 (C : cmp_Compare_uint64_C) (v : cmp_Compare_uint64_Y3) : Dt cmp_Compare_uint64_Y4 := (Dt.ret v.2.2.1)
theorem cmp_Compare_uint64_g4 (C : cmp_Compare_uint64_C) (v : cmp_Compare_uint64_Y3) : treg tysT (orc (cmp_Compare_uint64_tab C)) 20 (regO (bodyOf f91) 4) false [(12, .any)] (cmp_Compare_uint64_S3 v) some = (cmp_Compare_uint64_r4 C v).eval fun y => some (cmp_Compare_uint64_S4 y) := by kernel_rfl
abbrev cmp_Compare_uint64_Y5 : Type := Int
def cmp_Compare_uint64_S5 (v : cmp_Compare_uint64_Y5) : St := ⟨[(4, .int .i64 v)], []⟩
def cmp_Compare_uint64_r5 (C : cmp_Compare_uint64_C) (v : cmp_Compare_uint64_Y4) : Dt cmp_Compare_uint64_Y5 := (Dt.ret (0:Int))
theorem cmp_Compare_uint64_g5 (C : cmp_Compare_uint64_C) (v : cmp_Compare_uint64_Y4) : treg tysT (orc (cmp_Compare_uint64_tab C)) 20 (regO (bodyOf f91) 5) false [(4, .any)] (cmp_Compare_uint64_S4 v) some = (cmp_Compare_uint64_r5 C v).eval fun y => some (cmp_Compare_uint64_S5 y) := by kernel_rfl
def cmp_Compare_uint64_r6 (C : cmp_Compare_uint64_C) (v : cmp_Compare_uint64_Y4) : Dt cmp_Compare_uint64_Y5 := (Dt.ret (-1:Int))
theorem cmp_Compare_uint64_g6 (C : cmp_Compare_uint64_C) (v : cmp_Compare_uint64_Y4) : treg tysT (orc (cmp_Compare_uint64_tab C)) 20 (regO (bodyOf f91) 6) false [(4, .any)] (cmp_Compare_uint64_S4 v) some = (cmp_Compare_uint64_r6 C v).eval fun y => some (cmp_Compare_uint64_S5 y) := by kernel_rfl
abbrev cmp_Compare_uint64_Y7 : Type := Int × Int × Bool
def cmp_Compare_uint64_S7 (v : cmp_Compare_uint64_Y7) : St := ⟨[(0, .int .u64 v.1), (1, .int .u64 v.2.1), (13, .bool v.2.2)], []⟩
def cmp_Compare_uint64_r7 (C : cmp_Compare_uint64_C) (v : cmp_Compare_uint64_Y3) : Dt cmp_Compare_uint64_Y7 := (Dt.ret (v.1, v.2.1, v.2.2.1))
theorem cmp_Compare_uint64_g7 (C : cmp_Compare_uint64_C) (v : cmp_Compare_uint64_Y3) : treg tysT (orc (cmp_Compare_uint64_tab C)) 20 (regO (bodyOf f91) 7) false [(0, .any), (1, .any), (13, .any)] (cmp_Compare_uint64_S3 v) some = (cmp_Compare_uint64_r7 C v).eval fun y => some (cmp_Compare_uint64_S7 y) := by kernel_rfl
def cmp_Compare_uint64_r8 (C : cmp_Compare_uint64_C) (v : cmp_Compare_uint64_Y7) : Dt cmp_Compare_uint64_Y5 := (Dt.ret (1:Int))
theorem cmp_Compare_uint64_g8 (C : cmp_Compare_uint64_C) (v : cmp_Compare_uint64_Y7) : treg tysT (orc (cmp_Compare_uint64_tab C)) 20 (regO (bodyOf f91) 8) false [(4, .any)] (cmp_Compare_uint64_S7 v) some = (cmp_Compare_uint64_r8 C v).eval fun y => some (cmp_Compare_uint64_S5 y) := by kernel_rfl
abbrev cmp_Compare_uint64_Y9 : Type := Int × Int × Bool
def cmp_Compare_uint64_S9 (v : cmp_Compare_uint64_Y9) : St := ⟨[(0, .int .u64 v.1), (1, .int .u64 v.2.1), (16, .bool v.2.2)], []⟩
def cmp_Compare_uint64_r9 (C : cmp_Compare_uint64_C) (v : cmp_Compare_uint64_Y7) : Dt cmp_Compare_uint64_Y9 := (Dt.ret (v.1, v.2.1, (decide (v.1 < v.2.1))))
theorem cmp_Compare_uint64_g9 (C : cmp_Compare_uint64_C) (v : cmp_Compare_uint64_Y7) : treg tysT (orc (cmp_Compare_uint64_tab C)) 20 (regO (bodyOf f91) 9) false [(0, .any), (1, .any), (16, .any)] (cmp_Compare_uint64_S7 v) some = (cmp_Compare_uint64_r9 C v).eval fun y => some (cmp_Compare_uint64_S9 y) := by kernel_rfl
def cmp_Compare_uint64_r10 (C : cmp_Compare_uint64_C) (v : cmp_Compare_uint64_Y9) : Dt cmp_Compare_uint64_Y5 := (Dt.ret (-1:Int))
theorem cmp_Compare_uint64_g10 (C : cmp_Compare_uint64_C) (v : cmp_Compare_uint64_Y9) : treg tysT (orc (cmp_Compare_uint64_tab C)) 20 (regO (bodyOf f91) 10) false [(4, .any)] (cmp_Compare_uint64_S9 v) some = (cmp_Compare_uint64_r10 C v).eval fun y => some (cmp_Compare_uint64_S5 y) := by kernel_rfl
abbrev cmp_Compare_uint64_Y11 : Type := Bool
def cmp_Compare_uint64_S11 (v : cmp_Compare_uint64_Y11) : St := ⟨[(19, .bool v)], []⟩
def cmp_Compare_uint64_r11 (C : cmp_Compare_uint64_C) (v : cmp_Compare_uint64_Y9) : Dt cmp_Compare_uint64_Y11 := (Dt.ret (decide (v.1 > v.2.1)))
theorem cmp_Compare_uint64_g11 (C : cmp_Compare_uint64_C) (v : cmp_Compare_uint64_Y9) : treg tysT (orc (cmp_Compare_uint64_tab C)) 20 (regO (bodyOf f91) 11) false [(19, .any)] (cmp_Compare_uint64_S9 v) some = (cmp_Compare_uint64_r11 C v).eval fun y => some (cmp_Compare_uint64_S11 y) := by kernel_rfl
def cmp_Compare_uint64_r12 (C : cmp_Compare_uint64_C) (v : cmp_Compare_uint64_Y11) : Dt cmp_Compare_uint64_Y5 := (Dt.ret (1:Int))
theorem cmp_Compare_uint64_g12 (C : cmp_Compare_uint64_C) (v : cmp_Compare_uint64_Y11) : treg tysT (orc (cmp_Compare_uint64_tab C)) 20 (regO (bodyOf f91) 12) false [(4, .any)] (cmp_Compare_uint64_S11 v) some = (cmp_Compare_uint64_r12 C v).eval fun y => some (cmp_Compare_uint64_S5 y) := by kernel_rfl
def cmp_Compare_uint64_r13 (C : cmp_Compare_uint64_C) (v : cmp_Compare_uint64_Y11) : Dt cmp_Compare_uint64_Y5 := (Dt.ret (0:Int))
theorem cmp_Compare_uint64_g13 (C : cmp_Compare_uint64_C) (v : cmp_Compare_uint64_Y11) : treg tysT (orc (cmp_Compare_uint64_tab C)) 20 (regO (bodyOf f91) 13) false [(4, .any)] (cmp_Compare_uint64_S11 v) some = (cmp_Compare_uint64_r13 C v).eval fun y => some (cmp_Compare_uint64_S5 y) := by kernel_rfl
def F_cmp_Compare_uint64 (d : Nat) (x : cmp_Compare_uint64_X) : Option cmp_Compare_uint64_R :=
  (cmp_Compare_uint64_r0 (cmp_Compare_uint64_K d) (x.1.1, x.2.1.1)).eval fun y0 =>
  (cmp_Compare_uint64_r1 (cmp_Compare_uint64_K d) y0).eval fun y1 =>
  (cmp_Compare_uint64_r2 (cmp_Compare_uint64_K d) y1).eval fun y2 =>
  (cmp_Compare_uint64_r3 (cmp_Compare_uint64_K d) y2).eval fun y3 =>
  bif y3.2.2.2 then ((cmp_Compare_uint64_r4 (cmp_Compare_uint64_K d) y3).eval fun y4 =>
  bif y4 then ((cmp_Compare_uint64_r5 (cmp_Compare_uint64_K d) y4).eval fun y5 =>
  some y5) else ((cmp_Compare_uint64_r6 (cmp_Compare_uint64_K d) y4).eval fun y6 =>
  some y6)) else ((cmp_Compare_uint64_r7 (cmp_Compare_uint64_K d) y3).eval fun y7 =>
  bif y7.2.2 then ((cmp_Compare_uint64_r8 (cmp_Compare_uint64_K d) y7).eval fun y8 =>
  some y8) else ((cmp_Compare_uint64_r9 (cmp_Compare_uint64_K d) y7).eval fun y9 =>
  bif y9.2.2 then ((cmp_Compare_uint64_r10 (cmp_Compare_uint64_K d) y9).eval fun y10 =>
  some y10) else ((cmp_Compare_uint64_r11 (cmp_Compare_uint64_K d) y9).eval fun y11 =>
  bif y11 then ((cmp_Compare_uint64_r12 (cmp_Compare_uint64_K d) y11).eval fun y12 =>
  some y12) else ((cmp_Compare_uint64_r13 (cmp_Compare_uint64_K d) y11).eval fun y13 =>
  some y13))))
theorem cmp_Compare_uint64_cok (d : Nat) : COK prog (cmp_Compare_uint64_sp (F_cmp_Compare_uint64 d)) := by
  have hm : prog.follows .mixedOrders = true := mixed
  have hT := tys
  have hC0 : OrcOK prog (orc (cmp_Compare_uint64_tab (cmp_Compare_uint64_K d))) := orc_ok (by
    intro S hS
    simp only [cmp_Compare_uint64_tab, List.mem_cons, List.not_mem_nil, or_false] at hS
    subst hS; exact cmp_isNaN_uint64_cok d)
  have hC : OrcOK prog (orc (cmp_Compare_uint64_tab (cmp_Compare_uint64_K d))) := hC0
  refine cok_of (c := bodyOf f91) (fn := f91) hT (by kernel_rfl) (by kernel_rfl) (by decide) fun x r h w0 φ0 Q hend => ?_
  replace h : F_cmp_Compare_uint64 d x = some r := h
  unfold F_cmp_Compare_uint64 at h
  show Run prog w0 φ0 20 (bodyOf f91) ⟨[(0, .int .u64 x.1.1), (1, .int .u64 x.2.1.1)], []⟩ Q
  refine run_seq ?_
  refine run_reg hm hT hC (cmp_Compare_uint64_g0 (cmp_Compare_uint64_K d) (x.1.1, x.2.1.1)) h ?_
  intro y0 h
  refine cn_then ?_
  refine run_seq ?_
  refine run_reg hm hT hC (cmp_Compare_uint64_g1 (cmp_Compare_uint64_K d) y0) h ?_
  intro y1 h
  refine cn_then ?_
  refine run_seq ?_
  refine run_reg hm hT hC (cmp_Compare_uint64_g2 (cmp_Compare_uint64_K d) y1) h ?_
  intro y2 h
  refine cn_then ?_
  refine run_seq ?_
  refine run_seq ?_
  refine run_reg hm hT hC (cmp_Compare_uint64_g3 (cmp_Compare_uint64_K d) y2) h ?_
  intro y3 h
  refine cn_then ?_
  refine run_cond (v := y3.2.2.2) (by kernel_rfl) h ?_ ?_
  ·
    intro h
    refine run_seq ?_
    refine run_seq ?_
    refine run_reg hm hT hC (cmp_Compare_uint64_g4 (cmp_Compare_uint64_K d) y3) h ?_
    intro y4 h
    refine cn_then ?_
    refine run_cond (v := y4) (by kernel_rfl) h ?_ ?_
    ·
      intro h
      refine run_seq ?_
      refine run_reg hm hT hC (cmp_Compare_uint64_g5 (cmp_Compare_uint64_K d) y4) h ?_
      intro y5 h
      refine cn_then ?_
      refine run_ret ?_
      refine cn_then_ret ?_
      refine cn_then_ret ?_
      cases h
      exact (hend _ (by kernel_rfl)).2
    ·
      intro h
      refine run_skip ?_
      refine cn_then ?_
      refine run_seq ?_
      refine run_reg hm hT hC (cmp_Compare_uint64_g6 (cmp_Compare_uint64_K d) y4) h ?_
      intro y6 h
      refine cn_then ?_
      refine run_ret ?_
      refine cn_then_ret ?_
      cases h
      exact (hend _ (by kernel_rfl)).2
  ·
    intro h
    refine run_skip ?_
    refine cn_then ?_
    refine run_seq ?_
    refine run_seq ?_
    refine run_reg hm hT hC (cmp_Compare_uint64_g7 (cmp_Compare_uint64_K d) y3) h ?_
    intro y7 h
    refine cn_then ?_
    refine run_cond (v := y7.2.2) (by kernel_rfl) h ?_ ?_
    ·
      intro h
      refine run_seq ?_
      refine run_reg hm hT hC (cmp_Compare_uint64_g8 (cmp_Compare_uint64_K d) y7) h ?_
      intro y8 h
      refine cn_then ?_
      refine run_ret ?_
      refine cn_then_ret ?_
      cases h
      exact (hend _ (by kernel_rfl)).2
    ·
      intro h
      refine run_skip ?_
      refine cn_then ?_
      refine run_seq ?_
      refine run_seq ?_
      refine run_reg hm hT hC (cmp_Compare_uint64_g9 (cmp_Compare_uint64_K d) y7) h ?_
      intro y9 h
      refine cn_then ?_
      refine run_cond (v := y9.2.2) (by kernel_rfl) h ?_ ?_
      ·
        intro h
        refine run_seq ?_
        refine run_reg hm hT hC (cmp_Compare_uint64_g10 (cmp_Compare_uint64_K d) y9) h ?_
        intro y10 h
        refine cn_then ?_
        refine run_ret ?_
        refine cn_then_ret ?_
        cases h
        exact (hend _ (by kernel_rfl)).2
      ·
        intro h
        refine run_skip ?_
        refine cn_then ?_
        refine run_seq ?_
        refine run_seq ?_
        refine run_reg hm hT hC (cmp_Compare_uint64_g11 (cmp_Compare_uint64_K d) y9) h ?_
        intro y11 h
        refine cn_then ?_
        refine run_cond (v := y11) (by kernel_rfl) h ?_ ?_
        ·
          intro h
          refine run_seq ?_
          refine run_reg hm hT hC (cmp_Compare_uint64_g12 (cmp_Compare_uint64_K d) y11) h ?_
          intro y12 h
          refine cn_then ?_
          refine run_ret ?_
          refine cn_then_ret ?_
          cases h
          exact (hend _ (by kernel_rfl)).2
        ·
          intro h
          refine run_skip ?_
          refine cn_then ?_
          refine run_seq ?_
          refine run_reg hm hT hC (cmp_Compare_uint64_g13 (cmp_Compare_uint64_K d) y11) h ?_
          intro y13 h
          refine cn_then ?_
          refine run_ret ?_
          cases h
          exact (hend _ (by kernel_rfl)).2
abbrev ratio_compare_ps : List Pk := [.row Rbuu true, .row Rbuu true]
abbrev ratio_compare_X : Type := Dbuu × Dbuu × Unit
abbrev ratio_compare_R : Type := Int
def ratio_compare_enc (r : ratio_compare_R) : LV × List Ob := (.int .i64 r, [])
def ratio_compare_sp (F : ratio_compare_X → Option ratio_compare_R) : Go.Tx.Spec := ⟨67, ratio_compare_ps, ratio_compare_R, F, ratio_compare_enc⟩
abbrev ratio_compare_C : Type := (cmp_Compare_uint64_X → Option cmp_Compare_uint64_R) × Unit
def ratio_compare_K (d : Nat) : ratio_compare_C := (F_cmp_Compare_uint64 d, ())
def ratio_compare_tab (C : ratio_compare_C) : List Go.Tx.Spec := [cmp_Compare_uint64_sp C.1]
abbrev ratio_compare_Y0i : Type := Bool × Int × Int × Bool × Int × Int
def ratio_compare_S0i (v : ratio_compare_Y0i) : St := ⟨[(0, .agg [.bool v.1, .int .u64 v.2.1, .int .u64 v.2.2.1]), (1, .agg [.bool v.2.2.2.1, .int .u64 v.2.2.2.2.1, .int .u64 v.2.2.2.2.2])], []⟩
abbrev ratio_compare_Y0 : Type := Bool × Int × Int × Bool × Int × Int
def ratio_compare_S0 (v : ratio_compare_Y0) : St := ⟨[(2, .ptr 0 0), (3, .ptr 1 0)], [.cells [.bool v.1, .int .u64 v.2.1, .int .u64 v.2.2.1], .cells [.bool v.2.2.2.1, .int .u64 v.2.2.2.2.1, .int .u64 v.2.2.2.2.2]]⟩
def ratio_compare_r0 (C : ratio_compare_C) (v : ratio_compare_Y0i) : Dt ratio_compare_Y0 := (Dt.ret (v.1, v.2.1, v.2.2.1, v.2.2.2.1, v.2.2.2.2.1, v.2.2.2.2.2))
theorem ratio_compare_g0 (C : ratio_compare_C) (v : ratio_compare_Y0i) : treg tysT (orc (ratio_compare_tab C)) 19 (regO (bodyOf f67) 0) false [(2, .any), (3, .any)] (ratio_compare_S0i v) some = (ratio_compare_r0 C v).eval fun y => some (ratio_compare_S0 y) := by kernel_rfl
abbrev ratio_compare_Y1 : Type := Int × Bool × Int × Int × Bool × Int × Int
def ratio_compare_S1 (v : ratio_compare_Y1) : St := ⟨[(2, .ptr 0 0), (3, .ptr 1 0), (5, .int .i64 v.1)], [.cells [.bool v.2.1, .int .u64 v.2.2.1, .int .u64 v.2.2.2.1], .cells [.bool v.2.2.2.2.1, .int .u64 v.2.2.2.2.2.1, .int .u64 v.2.2.2.2.2.2]]⟩
def ratio_compare_r1 (C : ratio_compare_C) (v : ratio_compare_Y0) : Dt ratio_compare_Y1 := (Dt.bnd (C.1 ((v.2.1, ()), (v.2.2.2.2.1, ()), ())) fun r1 => (Dt.ret (r1, v.1, v.2.1, v.2.2.1, v.2.2.2.1, v.2.2.2.2.1, v.2.2.2.2.2)))
theorem ratio_compare_g1 (C : ratio_compare_C) (v : ratio_compare_Y0) : treg tysT (orc (ratio_compare_tab C)) 19 (regO (bodyOf f67) 1) false [(2, .any), (3, .any), (5, .any)] (ratio_compare_S0 v) some = (ratio_compare_r1 C v).eval fun y => some (ratio_compare_S1 y) := by kernel_rfl
abbrev ratio_compare_Y2 : Type := Int × Bool × Bool × Int × Int × Bool × Int × Int
def ratio_compare_S2 (v : ratio_compare_Y2) : St := ⟨[(2, .ptr 0 0), (3, .ptr 1 0), (5, .int .i64 v.1), (12, .bool v.2.1)], [.cells [.bool v.2.2.1, .int .u64 v.2.2.2.1, .int .u64 v.2.2.2.2.1], .cells [.bool v.2.2.2.2.2.1, .int .u64 v.2.2.2.2.2.2.1, .int .u64 v.2.2.2.2.2.2.2]]⟩
def ratio_compare_r2 (C : ratio_compare_C) (v : ratio_compare_Y1) : Dt ratio_compare_Y2 := (Dt.ret (v.1, (v.1 != (0:Int)), v.2.1, v.2.2.1, v.2.2.2.1, v.2.2.2.2.1, v.2.2.2.2.2.1, v.2.2.2.2.2.2))
theorem ratio_compare_g2 (C : ratio_compare_C) (v : ratio_compare_Y1) : treg tysT (orc (ratio_compare_tab C)) 19 (regO (bodyOf f67) 2) false [(2, .any), (3, .any), (5, .any), (12, .any)] (ratio_compare_S1 v) some = (ratio_compare_r2 C v).eval fun y => some (ratio_compare_S2 y) := by kernel_rfl
abbrev ratio_compare_Y3 : Type := Int
def ratio_compare_S3 (v : ratio_compare_Y3) : St := ⟨[(4, .int .i64 v)], []⟩
def ratio_compare_r3 (C : ratio_compare_C) (v : ratio_compare_Y2) : Dt ratio_compare_Y3 := (Dt.ret v.1)
theorem ratio_compare_g3 (C : ratio_compare_C) (v : ratio_compare_Y2) : treg tysT (orc (ratio_compare_tab C)) 19 (regO (bodyOf f67) 3) false [(4, .any)] (ratio_compare_S2 v) some = (ratio_compare_r3 C v).eval fun y => some (ratio_compare_S3 y) := by kernel_rfl
def ratio_compare_r4 (C : ratio_compare_C) (v : ratio_compare_Y2) : Dt ratio_compare_Y3 := (Dt.bnd (C.1 ((v.2.2.2.2.1, ()), (v.2.2.2.2.2.2.2, ()), ())) fun r1 => (Dt.ret r1))
theorem ratio_compare_g4 (C : ratio_compare_C) (v : ratio_compare_Y2) : treg tysT (orc (ratio_compare_tab C)) 19 (regO (bodyOf f67) 4) false [(4, .any)] (ratio_compare_S2 v) some = (ratio_compare_r4 C v).eval fun y => some (ratio_compare_S3 y) := by kernel_rfl
def F_ratio_compare (d : Nat) (x : ratio_compare_X) : Option ratio_compare_R :=
  (ratio_compare_r0 (ratio_compare_K d) (x.1.1, x.1.2.1, x.1.2.2.1, x.2.1.1, x.2.1.2.1, x.2.1.2.2.1)).eval fun y0 =>
  (ratio_compare_r1 (ratio_compare_K d) y0).eval fun y1 =>
  (ratio_compare_r2 (ratio_compare_K d) y1).eval fun y2 =>
  bif y2.2.1 then ((ratio_compare_r3 (ratio_compare_K d) y2).eval fun y3 =>
  some y3) else ((ratio_compare_r4 (ratio_compare_K d) y2).eval fun y4 =>
  some y4)
theorem ratio_compare_cok (d : Nat) : COK prog (ratio_compare_sp (F_ratio_compare d)) := by
  have hm : prog.follows .mixedOrders = true := mixed
  have hT := tys
  have hC0 : OrcOK prog (orc (ratio_compare_tab (ratio_compare_K d))) := orc_ok (by
    intro S hS
    simp only [ratio_compare_tab, List.mem_cons, List.not_mem_nil, or_false] at hS
    subst hS; exact cmp_Compare_uint64_cok d)
  have hC : OrcOK prog (orc (ratio_compare_tab (ratio_compare_K d))) := hC0
  refine cok_of (c := bodyOf f67) (fn := f67) hT (by kernel_rfl) (by kernel_rfl) (by decide) fun x r h w0 φ0 Q hend => ?_
  replace h : F_ratio_compare d x = some r := h
  unfold F_ratio_compare at h
  show Run prog w0 φ0 19 (bodyOf f67) ⟨[(0, .agg [.bool x.1.1, .int .u64 x.1.2.1, .int .u64 x.1.2.2.1]), (1, .agg [.bool x.2.1.1, .int .u64 x.2.1.2.1, .int .u64 x.2.1.2.2.1])], []⟩ Q
  refine run_seq ?_
  refine run_reg hm hT hC (ratio_compare_g0 (ratio_compare_K d) (x.1.1, x.1.2.1, x.1.2.2.1, x.2.1.1, x.2.1.2.1, x.2.1.2.2.1)) h ?_
  intro y0 h
  refine cn_then ?_
  refine run_seq ?_
  refine run_seq ?_
  refine run_reg hm hT hC (ratio_compare_g1 (ratio_compare_K d) y0) h ?_
  intro y1 h
  refine cn_then ?_
  refine run_seq ?_
  refine run_reg hm hT hC (ratio_compare_g2 (ratio_compare_K d) y1) h ?_
  intro y2 h
  refine cn_then ?_
  refine run_cond (v := y2.2.1) (by kernel_rfl) h ?_ ?_
  ·
    intro h
    refine run_seq ?_
    refine run_reg hm hT hC (ratio_compare_g3 (ratio_compare_K d) y2) h ?_
    intro y3 h
    refine cn_then ?_
    refine run_ret ?_
    refine cn_then_ret ?_
    cases h
    exact (hend _ (by kernel_rfl)).2
  ·
    intro h
    refine run_skip ?_
    refine cn_then ?_
    refine run_seq ?_
    refine run_reg hm hT hC (ratio_compare_g4 (ratio_compare_K d) y2) h ?_
    intro y4 h
    refine cn_then ?_
    refine run_ret ?_
    cases h
    exact (hend _ (by kernel_rfl)).2
abbrev ratio_Cmp_ps : List Pk := [.row Rii true, .row Rii true]
abbrev ratio_Cmp_X : Type := Dii × Dii × Unit
abbrev ratio_Cmp_R : Type := Int × Int
def ratio_Cmp_enc (r : ratio_Cmp_R) : LV × List Ob := (.tup [.int .i64 r.1, .int .i64 r.2], [])
def ratio_Cmp_sp (F : ratio_Cmp_X → Option ratio_Cmp_R) : Go.Tx.Spec := ⟨52, ratio_Cmp_ps, ratio_Cmp_R, F, ratio_Cmp_enc⟩
abbrev ratio_Cmp_C : Type := (ratio_both_X → Option ratio_both_R) × (cmp_Compare_int64_X → Option cmp_Compare_int64_R) × (ratio_compare_X → Option ratio_compare_R) × (ratio_times_X → Option ratio_times_R) × Unit
def ratio_Cmp_K (d : Nat) : ratio_Cmp_C := (F_ratio_both d, F_cmp_Compare_int64 d, F_ratio_compare d, F_ratio_times d, ())
def ratio_Cmp_tab (C : ratio_Cmp_C) : List Go.Tx.Spec := [ratio_both_sp C.1, cmp_Compare_int64_sp C.2.1, ratio_compare_sp C.2.2.1, ratio_times_sp C.2.2.2.1]
abbrev ratio_Cmp_Y0i : Type := Int × Int × Int × Int
def ratio_Cmp_S0i (v : ratio_Cmp_Y0i) : St := ⟨[(0, .agg [.int .i64 v.1, .int .i64 v.2.1]), (1, .agg [.int .i64 v.2.2.1, .int .i64 v.2.2.2])], []⟩
abbrev ratio_Cmp_Y0 : Type := Int × Int × Int × Int
def ratio_Cmp_S0 (v : ratio_Cmp_Y0) : St := ⟨[(2, .ptr 0 0), (3, .ptr 1 0)], [.cells [.int .i64 v.1, .int .i64 v.2.1], .cells [.int .i64 v.2.2.1, .int .i64 v.2.2.2]]⟩
def ratio_Cmp_r0 (C : ratio_Cmp_C) (v : ratio_Cmp_Y0i) : Dt ratio_Cmp_Y0 := (Dt.ret (v.1, v.2.1, v.2.2.1, v.2.2.2))
theorem ratio_Cmp_g0 (C : ratio_Cmp_C) (v : ratio_Cmp_Y0i) : treg tysT (orc (ratio_Cmp_tab C)) 43 (regO (bodyOf f52) 0) false [(2, .any), (3, .any)] (ratio_Cmp_S0i v) some = (ratio_Cmp_r0 C v).eval fun y => some (ratio_Cmp_S0 y) := by kernel_rfl
abbrev ratio_Cmp_Y1 : Type := Int × Int × Int × Int × Int
def ratio_Cmp_S1 (v : ratio_Cmp_Y1) : St := ⟨[(2, .ptr 0 0), (3, .ptr 1 0), (6, .int .i64 v.1)], [.cells [.int .i64 v.2.1, .int .i64 v.2.2.1], .cells [.int .i64 v.2.2.2.1, .int .i64 v.2.2.2.2]]⟩
def ratio_Cmp_r1 (C : ratio_Cmp_C) (v : ratio_Cmp_Y0) : Dt ratio_Cmp_Y1 := (Dt.bnd (C.1 ((v.1, v.2.1, ()), (v.2.2.1, v.2.2.2, ()), ())) fun r1 => (Dt.ret (r1, v.1, v.2.1, v.2.2.1, v.2.2.2)))
theorem ratio_Cmp_g1 (C : ratio_Cmp_C) (v : ratio_Cmp_Y0) : treg tysT (orc (ratio_Cmp_tab C)) 43 (regO (bodyOf f52) 1) false [(2, .any), (3, .any), (6, .any)] (ratio_Cmp_S0 v) some = (ratio_Cmp_r1 C v).eval fun y => some (ratio_Cmp_S1 y) := by kernel_rfl
abbrev ratio_Cmp_Y2 : Type := Int × Bool × Int × Int × Int × Int
def ratio_Cmp_S2 (v : ratio_Cmp_Y2) : St := ⟨[(2, .ptr 0 0), (3, .ptr 1 0), (6, .int .i64 v.1), (12, .bool v.2.1)], [.cells [.int .i64 v.2.2.1, .int .i64 v.2.2.2.1], .cells [.int .i64 v.2.2.2.2.1, .int .i64 v.2.2.2.2.2]]⟩
def ratio_Cmp_r2 (C : ratio_Cmp_C) (v : ratio_Cmp_Y1) : Dt ratio_Cmp_Y2 := (Dt.ret (v.1, (v.1 != (0:Int)), v.2.1, v.2.2.1, v.2.2.2.1, v.2.2.2.2))
theorem ratio_Cmp_g2 (C : ratio_Cmp_C) (v : ratio_Cmp_Y1) : treg tysT (orc (ratio_Cmp_tab C)) 43 (regO (bodyOf f52) 2) false [(2, .any), (3, .any), (6, .any), (12, .any)] (ratio_Cmp_S1 v) some = (ratio_Cmp_r2 C v).eval fun y => some (ratio_Cmp_S2 y) := by kernel_rfl
abbrev ratio_Cmp_Y3 : Type := Int × Int
def ratio_Cmp_S3 (v : ratio_Cmp_Y3) : St := ⟨[(4, .int .i64 v.1), (5, .int .i64 v.2)], []⟩
def ratio_Cmp_r3 (C : ratio_Cmp_C) (v : ratio_Cmp_Y2) : Dt ratio_Cmp_Y3 := (Dt.ret ((0:Int), v.1))
theorem ratio_Cmp_g3 (C : ratio_Cmp_C) (v : ratio_Cmp_Y2) : treg tysT (orc (ratio_Cmp_tab C)) 43 (regO (bodyOf f52) 3) false [(4, .any), (5, .any)] (ratio_Cmp_S2 v) some = (ratio_Cmp_r3 C v).eval fun y => some (ratio_Cmp_S3 y) := by kernel_rfl
abbrev ratio_Cmp_Y4 : Type := Bool × Int × Int × Int × Int
def ratio_Cmp_S4 (v : ratio_Cmp_Y4) : St := ⟨[(2, .ptr 0 0), (3, .ptr 1 0), (20, .bool v.1)], [.cells [.int .i64 v.2.1, .int .i64 v.2.2.1], .cells [.int .i64 v.2.2.2.1, .int .i64 v.2.2.2.2]]⟩
def ratio_Cmp_r4 (C : ratio_Cmp_C) (v : ratio_Cmp_Y2) : Dt ratio_Cmp_Y4 := (Dt.ret ((!((decide (v.2.2.1 < (0:Int))) == (decide (v.2.2.2.2.1 < (0:Int))))), v.2.2.1, v.2.2.2.1, v.2.2.2.2.1, v.2.2.2.2.2))
theorem ratio_Cmp_g4 (C : ratio_Cmp_C) (v : ratio_Cmp_Y2) : treg tysT (orc (ratio_Cmp_tab C)) 43 (regO (bodyOf f52) 4) false [(2, .any), (3, .any), (20, .any)] (ratio_Cmp_S2 v) some = (ratio_Cmp_r4 C v).eval fun y => some (ratio_Cmp_S4 y) := by kernel_rfl
def ratio_Cmp_r5 (C : ratio_Cmp_C) (v : ratio_Cmp_Y4) : Dt ratio_Cmp_Y3 := (Dt.bnd (C.2.1 ((v.2.1, ()), (v.2.2.2.1, ()), ())) fun r1 => (Dt.ret (r1, (0:Int))))
theorem ratio_Cmp_g5 (C : ratio_Cmp_C) (v : ratio_Cmp_Y4) : treg tysT (orc (ratio_Cmp_tab C)) 43 (regO (bodyOf f52) 5) false [(4, .any), (5, .any)] (ratio_Cmp_S4 v) some = (ratio_Cmp_r5 C v).eval fun y => some (ratio_Cmp_S3 y) := by kernel_rfl
abbrev ratio_Cmp_Y6 : Type := Int × Int × Int
def ratio_Cmp_S6 (v : ratio_Cmp_Y6) : St := ⟨[(2, .ptr 0 0), (7, .int .i64 v.1)], [.cells [.int .i64 v.2.1, .int .i64 v.2.2]]⟩
def ratio_Cmp_r6 (C : ratio_Cmp_C) (v : ratio_Cmp_Y4) : Dt ratio_Cmp_Y6 := (Dt.bnd (C.2.2.2.1 ((v.2.1, ()), (v.2.2.2.2, ()), ())) fun r1 => (Dt.bnd (C.2.2.2.1 ((v.2.2.2.1, ()), (v.2.2.1, ()), ())) fun r2 => (Dt.bnd (C.2.2.1 ((r1.1, r1.2.1, r1.2.2, ()), (r2.1, r2.2.1, r2.2.2, ()), ())) fun r3 => (Dt.ret (r3, v.2.1, v.2.2.1)))))
theorem ratio_Cmp_g6 (C : ratio_Cmp_C) (v : ratio_Cmp_Y4) : treg tysT (orc (ratio_Cmp_tab C)) 43 (regO (bodyOf f52) 6) true [(2, .any), (7, .any)] (ratio_Cmp_S4 v) some = (ratio_Cmp_r6 C v).eval fun y => some (ratio_Cmp_S6 y) := by kernel_rfl
abbrev ratio_Cmp_Y7 : Type := Int × Bool
def ratio_Cmp_S7 (v : ratio_Cmp_Y7) : St := ⟨[(7, .int .i64 v.1), (39, .bool v.2)], []⟩
def ratio_Cmp_r7 (C : ratio_Cmp_C) (v : ratio_Cmp_Y6) : Dt ratio_Cmp_Y7 := (Dt.ret (v.1, (decide (v.2.1 < (0:Int)))))
theorem ratio_Cmp_g7 (C : ratio_Cmp_C) (v : ratio_Cmp_Y6) : treg tysT (orc (ratio_Cmp_tab C)) 43 (regO (bodyOf f52) 7) false [(7, .any), (39, .any)] (ratio_Cmp_S6 v) some = (ratio_Cmp_r7 C v).eval fun y => some (ratio_Cmp_S7 y) := by kernel_rfl
abbrev ratio_Cmp_Y8 : Type := Int
def ratio_Cmp_S8 (v : ratio_Cmp_Y8) : St := ⟨[(7, .int .i64 v)], []⟩
def ratio_Cmp_r8 (C : ratio_Cmp_C) (v : ratio_Cmp_Y7) : Dt ratio_Cmp_Y8 := (Dt.ret (IntKind.wrap .i64 (0 - v.1)))
theorem ratio_Cmp_g8 (C : ratio_Cmp_C) (v : ratio_Cmp_Y7) : treg tysT (orc (ratio_Cmp_tab C)) 43 (regO (bodyOf f52) 8) false [(7, .any)] (ratio_Cmp_S7 v) some = (ratio_Cmp_r8 C v).eval fun y => some (ratio_Cmp_S8 y) := by kernel_rfl
def ratio_Cmp_r9 (C : ratio_Cmp_C) (v : ratio_Cmp_Y8) : Dt ratio_Cmp_Y3 := (Dt.ret (v, (0:Int)))
theorem ratio_Cmp_g9 (C : ratio_Cmp_C) (v : ratio_Cmp_Y8) : treg tysT (orc (ratio_Cmp_tab C)) 43 (regO (bodyOf f52) 9) false [(4, .any), (5, .any)] (ratio_Cmp_S8 v) some = (ratio_Cmp_r9 C v).eval fun y => some (ratio_Cmp_S3 y) := by kernel_rfl
def ratio_Cmp_J1  (d : Nat)  (z : Int) : Option (ratio_Cmp_R) :=
  (ratio_Cmp_r9 (ratio_Cmp_K d) z).eval fun y9 =>
  some y9
def F_ratio_Cmp (d : Nat) (x : ratio_Cmp_X) : Option ratio_Cmp_R :=
  (ratio_Cmp_r0 (ratio_Cmp_K d) (x.1.1, x.1.2.1, x.2.1.1, x.2.1.2.1)).eval fun y0 =>
  (ratio_Cmp_r1 (ratio_Cmp_K d) y0).eval fun y1 =>
  (ratio_Cmp_r2 (ratio_Cmp_K d) y1).eval fun y2 =>
  bif y2.2.1 then ((ratio_Cmp_r3 (ratio_Cmp_K d) y2).eval fun y3 =>
  some y3) else ((ratio_Cmp_r4 (ratio_Cmp_K d) y2).eval fun y4 =>
  bif y4.1 then ((ratio_Cmp_r5 (ratio_Cmp_K d) y4).eval fun y5 =>
  some y5) else ((ratio_Cmp_r6 (ratio_Cmp_K d) y4).eval fun y6 =>
  (ratio_Cmp_r7 (ratio_Cmp_K d) y6).eval fun y7 =>
  bif y7.2 then ((ratio_Cmp_r8 (ratio_Cmp_K d) y7).eval fun y8 =>
  ratio_Cmp_J1 d  y8) else (ratio_Cmp_J1 d  y7.1)))
theorem ratio_Cmp_cok (d : Nat) : COK prog (ratio_Cmp_sp (F_ratio_Cmp d)) := by
  have hm : prog.follows .mixedOrders = true := mixed
  have hT := tys
  have hC0 : OrcOK prog (orc (ratio_Cmp_tab (ratio_Cmp_K d))) := orc_ok (by
    intro S hS
    simp only [ratio_Cmp_tab, List.mem_cons, List.not_mem_nil, or_false] at hS
    rcases hS with rfl | rfl | rfl | rfl
    · exact ratio_both_cok d
    · exact cmp_Compare_int64_cok d
    · exact ratio_compare_cok d
    · exact ratio_times_cok d)
  have hC : OrcOK prog (orc (ratio_Cmp_tab (ratio_Cmp_K d))) := hC0
  refine cok_of (c := bodyOf f52) (fn := f52) hT (by kernel_rfl) (by kernel_rfl) (by decide) fun x r h w0 φ0 Q hend => ?_
  replace h : F_ratio_Cmp d x = some r := h
  unfold F_ratio_Cmp at h
  show Run prog w0 φ0 43 (bodyOf f52) ⟨[(0, .agg [.int .i64 x.1.1, .int .i64 x.1.2.1]), (1, .agg [.int .i64 x.2.1.1, .int .i64 x.2.1.2.1])], []⟩ Q
  refine run_seq ?_
  refine run_reg hm hT hC (ratio_Cmp_g0 (ratio_Cmp_K d) (x.1.1, x.1.2.1, x.2.1.1, x.2.1.2.1)) h ?_
  intro y0 h
  refine cn_then ?_
  refine run_seq ?_
  refine run_seq ?_
  refine run_reg hm hT hC (ratio_Cmp_g1 (ratio_Cmp_K d) y0) h ?_
  intro y1 h
  refine cn_then ?_
  refine run_seq ?_
  refine run_reg hm hT hC (ratio_Cmp_g2 (ratio_Cmp_K d) y1) h ?_
  intro y2 h
  refine cn_then ?_
  refine run_cond (v := y2.2.1) (by kernel_rfl) h ?_ ?_
  ·
    intro h
    refine run_seq ?_
    refine run_reg hm hT hC (ratio_Cmp_g3 (ratio_Cmp_K d) y2) h ?_
    intro y3 h
    refine cn_then ?_
    refine run_ret ?_
    refine cn_then_ret ?_
    cases h
    exact (hend _ (by kernel_rfl)).2
  ·
    intro h
    refine run_skip ?_
    refine cn_then ?_
    refine run_seq ?_
    refine run_seq ?_
    refine run_reg hm hT hC (ratio_Cmp_g4 (ratio_Cmp_K d) y2) h ?_
    intro y4 h
    refine cn_then ?_
    refine run_cond (v := y4.1) (by kernel_rfl) h ?_ ?_
    ·
      intro h
      refine run_seq ?_
      refine run_reg hm hT hC (ratio_Cmp_g5 (ratio_Cmp_K d) y4) h ?_
      intro y5 h
      refine cn_then ?_
      refine run_ret ?_
      refine cn_then_ret ?_
      cases h
      exact (hend _ (by kernel_rfl)).2
    ·
      intro h
      refine run_skip ?_
      refine cn_then ?_
      refine run_seq ?_
      refine run_reg hm hT hC (ratio_Cmp_g6 (ratio_Cmp_K d) y4) h ?_
      intro y6 h
      refine cn_then ?_
      refine run_join (r := r) (F := ratio_Cmp_J1 d ) (S := (fun z => ⟨[(7, .int .i64 z)], []⟩ : Int → St)) ?_ ?_
      ·
        intro z h
        unfold ratio_Cmp_J1 at h
        refine run_seq ?_
        refine run_reg hm hT hC (ratio_Cmp_g9 (ratio_Cmp_K d) z) h ?_
        intro y9 h
        refine cn_then ?_
        refine run_ret ?_
        cases h
        exact (hend _ (by kernel_rfl)).2
      intro hj1
      refine run_seq ?_
      refine run_reg hm hT hC (ratio_Cmp_g7 (ratio_Cmp_K d) y6) h ?_
      intro y7 h
      refine cn_then ?_
      refine run_cond (v := y7.2) (by kernel_rfl) h ?_ ?_
      ·
        intro h
        refine run_reg hm hT hC (ratio_Cmp_g8 (ratio_Cmp_K d) y7) h ?_
        intro y8 h
        exact hj1 _ h
      ·
        intro h
        refine run_skip ?_
        refine cn_num (s := ⟨[(7, .int .i64 y7.1)], []⟩) [39] (by kernel_rfl) ?_
        exact hj1 _ h
abbrev meet_later_ps : List Pk := [.row Rii true, .row Rii true]
abbrev meet_later_X : Type := Dii × Dii × Unit
abbrev meet_later_R : Type := Int
def meet_later_enc (r : meet_later_R) : LV × List Ob := (.int .i64 r, [])
def meet_later_sp (F : meet_later_X → Option meet_later_R) : Go.Tx.Spec := ⟨35, meet_later_ps, meet_later_R, F, meet_later_enc⟩
abbrev meet_later_C : Type := (ratio_Cmp_X → Option ratio_Cmp_R) × Unit
def meet_later_K (d : Nat) : meet_later_C := (F_ratio_Cmp d, ())
def meet_later_tab (C : meet_later_C) : List Go.Tx.Spec := [ratio_Cmp_sp C.1]
abbrev meet_later_Y0i : Type := Int × Int × Int × Int
def meet_later_S0i (v : meet_later_Y0i) : St := ⟨[(0, .agg [.int .i64 v.1, .int .i64 v.2.1]), (1, .agg [.int .i64 v.2.2.1, .int .i64 v.2.2.2])], []⟩
abbrev meet_later_Y0 : Type := Int × Int × Int × Int
def meet_later_S0 (v : meet_later_Y0) : St := ⟨[(2, .ptr 0 0), (3, .ptr 1 0)], [.cells [.int .i64 v.1, .int .i64 v.2.1], .cells [.int .i64 v.2.2.1, .int .i64 v.2.2.2]]⟩
def meet_later_r0 (C : meet_later_C) (v : meet_later_Y0i) : Dt meet_later_Y0 := (Dt.ret (v.1, v.2.1, v.2.2.1, v.2.2.2))
theorem meet_later_g0 (C : meet_later_C) (v : meet_later_Y0i) : treg tysT (orc (meet_later_tab C)) 14 (regO (bodyOf f35) 0) false [(2, .any), (3, .any)] (meet_later_S0i v) some = (meet_later_r0 C v).eval fun y => some (meet_later_S0 y) := by kernel_rfl
abbrev meet_later_Y1 : Type := Int
def meet_later_S1 (v : meet_later_Y1) : St := ⟨[(5, .int .i64 v)], []⟩
def meet_later_r1 (C : meet_later_C) (v : meet_later_Y0) : Dt meet_later_Y1 := (Dt.bnd (C.1 ((v.1, v.2.1, ()), (v.2.2.1, v.2.2.2, ()), ())) fun r1 => (Dt.ret r1.1))
theorem meet_later_g1 (C : meet_later_C) (v : meet_later_Y0) : treg tysT (orc (meet_later_tab C)) 14 (regO (bodyOf f35) 1) false [(5, .any)] (meet_later_S0 v) some = (meet_later_r1 C v).eval fun y => some (meet_later_S1 y) := by kernel_rfl
abbrev meet_later_Y2 : Type := Int
def meet_later_S2 (v : meet_later_Y2) : St := ⟨[(4, .int .i64 v)], []⟩
def meet_later_r2 (C : meet_later_C) (v : meet_later_Y1) : Dt meet_later_Y2 := (Dt.ret v)
theorem meet_later_g2 (C : meet_later_C) (v : meet_later_Y1) : treg tysT (orc (meet_later_tab C)) 14 (regO (bodyOf f35) 2) false [(4, .any)] (meet_later_S1 v) some = (meet_later_r2 C v).eval fun y => some (meet_later_S2 y) := by kernel_rfl
def F_meet_later (d : Nat) (x : meet_later_X) : Option meet_later_R :=
  (meet_later_r0 (meet_later_K d) (x.1.1, x.1.2.1, x.2.1.1, x.2.1.2.1)).eval fun y0 =>
  (meet_later_r1 (meet_later_K d) y0).eval fun y1 =>
  (meet_later_r2 (meet_later_K d) y1).eval fun y2 =>
  some y2
theorem meet_later_cok (d : Nat) : COK prog (meet_later_sp (F_meet_later d)) := by
  have hm : prog.follows .mixedOrders = true := mixed
  have hT := tys
  have hC0 : OrcOK prog (orc (meet_later_tab (meet_later_K d))) := orc_ok (by
    intro S hS
    simp only [meet_later_tab, List.mem_cons, List.not_mem_nil, or_false] at hS
    subst hS; exact ratio_Cmp_cok d)
  have hC : OrcOK prog (orc (meet_later_tab (meet_later_K d))) := hC0
  refine cok_of (c := bodyOf f35) (fn := f35) hT (by kernel_rfl) (by kernel_rfl) (by decide) fun x r h w0 φ0 Q hend => ?_
  replace h : F_meet_later d x = some r := h
  unfold F_meet_later at h
  show Run prog w0 φ0 14 (bodyOf f35) ⟨[(0, .agg [.int .i64 x.1.1, .int .i64 x.1.2.1]), (1, .agg [.int .i64 x.2.1.1, .int .i64 x.2.1.2.1])], []⟩ Q
  refine run_seq ?_
  refine run_reg hm hT hC (meet_later_g0 (meet_later_K d) (x.1.1, x.1.2.1, x.2.1.1, x.2.1.2.1)) h ?_
  intro y0 h
  refine cn_then ?_
  refine run_seq ?_
  refine run_reg hm hT hC (meet_later_g1 (meet_later_K d) y0) h ?_
  intro y1 h
  refine cn_then ?_
  refine run_seq ?_
  refine run_reg hm hT hC (meet_later_g2 (meet_later_K d) y1) h ?_
  intro y2 h
  refine cn_then ?_
  refine run_ret ?_
  cases h
  exact (hend _ (by kernel_rfl)).2
abbrev meet_check_ps : List Pk := [.row RLiiiE true, .row RLiiE false]
abbrev meet_check_X : Type := DLiiiE × DLiiE × Unit
abbrev meet_check_R : Type := Int
def meet_check_enc (r : meet_check_R) : LV × List Ob := (.int .i64 r, [])
def meet_check_sp (F : meet_check_X → Option meet_check_R) : Go.Tx.Spec := ⟨20, meet_check_ps, meet_check_R, F, meet_check_enc⟩
abbrev meet_check_C : Type := (field_Check_X → Option field_Check_R) × (ratio_Check_X → Option ratio_Check_R) × (meet_later_X → Option meet_later_R) × Unit
def meet_check_K (d : Nat) : meet_check_C := (F_field_Check d, F_ratio_Check d, F_meet_later d, ())
def meet_check_tab (C : meet_check_C) : List Go.Tx.Spec := [field_Check_sp C.1, ratio_Check_sp C.2.1, meet_later_sp C.2.2.1]
abbrev meet_check_Y0i : Type := List Diii × List Dii
def meet_check_S0i (v : meet_check_Y0i) : St := ⟨[(0, .agg [.fz Riii v.1]), (1, .fz Rii v.2)], []⟩
abbrev meet_check_Y0 : Type := List Dii × List Diii
def meet_check_S0 (v : meet_check_Y0) : St := ⟨[(1, .fz Rii v.1), (2, .ptr 0 0)], [.cells [.fz Riii v.2]]⟩
def meet_check_r0 (C : meet_check_C) (v : meet_check_Y0i) : Dt meet_check_Y0 := (Dt.ret (v.2, v.1))
theorem meet_check_g0 (C : meet_check_C) (v : meet_check_Y0i) : treg tysT (orc (meet_check_tab C)) 39 (regO (bodyOf f20) 0) false [(1, (.val Rii)), (2, (.box [.val Riii]))] (meet_check_S0i v) some = (meet_check_r0 C v).eval fun y => some (meet_check_S0 y) := by kernel_rfl
abbrev meet_check_Y1 : Type := List Dii × Int
def meet_check_S1 (v : meet_check_Y1) : St := ⟨[(1, .fz Rii v.1), (5, .int .i64 v.2)], []⟩
def meet_check_r1 (C : meet_check_C) (v : meet_check_Y0) : Dt meet_check_Y1 := (Dt.bnd (C.1 ((v.2, ()), ())) fun r1 => (Dt.ret (v.1, r1)))
theorem meet_check_g1 (C : meet_check_C) (v : meet_check_Y0) : treg tysT (orc (meet_check_tab C)) 39 (regO (bodyOf f20) 1) false [(1, (.val Rii)), (5, .any)] (meet_check_S0 v) some = (meet_check_r1 C v).eval fun y => some (meet_check_S1 y) := by kernel_rfl
abbrev meet_check_Y2 : Type := List Dii × Int × Bool
def meet_check_S2 (v : meet_check_Y2) : St := ⟨[(1, .fz Rii v.1), (5, .int .i64 v.2.1), (12, .bool v.2.2)], []⟩
def meet_check_r2 (C : meet_check_C) (v : meet_check_Y1) : Dt meet_check_Y2 := (Dt.ret (v.1, v.2, (v.2 != (0:Int))))
theorem meet_check_g2 (C : meet_check_C) (v : meet_check_Y1) : treg tysT (orc (meet_check_tab C)) 39 (regO (bodyOf f20) 2) false [(1, (.val Rii)), (5, .any), (12, .any)] (meet_check_S1 v) some = (meet_check_r2 C v).eval fun y => some (meet_check_S2 y) := by kernel_rfl
abbrev meet_check_Y3 : Type := Int
def meet_check_S3 (v : meet_check_Y3) : St := ⟨[(4, .int .i64 v)], []⟩
def meet_check_r3 (C : meet_check_C) (v : meet_check_Y2) : Dt meet_check_Y3 := (Dt.ret v.2.1)
theorem meet_check_g3 (C : meet_check_C) (v : meet_check_Y2) : treg tysT (orc (meet_check_tab C)) 39 (regO (bodyOf f20) 3) false [(4, .any)] (meet_check_S2 v) some = (meet_check_r3 C v).eval fun y => some (meet_check_S3 y) := by kernel_rfl
abbrev meet_check_Y4 : Type := List Dii × List Dii × Int × Int
def meet_check_S4 (v : meet_check_Y4) : St := ⟨[(1, .fz Rii v.1), (14, .fz Rii v.2.1), (15, .int .i64 v.2.2.1), (16, .int .i64 v.2.2.2)], []⟩
def meet_check_r4 (C : meet_check_C) (v : meet_check_Y2) : Dt meet_check_Y4 := (Dt.ret (v.1, v.1, (List.length v.1 : Int), (0:Int)))
theorem meet_check_g4 (C : meet_check_C) (v : meet_check_Y2) : treg tysT (orc (meet_check_tab C)) 39 (regO (bodyOf f20) 4) false [(1, (.val Rii)), (14, (.val Rii)), (15, .any), (16, .any)] (meet_check_S2 v) some = (meet_check_r4 C v).eval fun y => some (meet_check_S4 y) := by kernel_rfl
abbrev meet_check_Y5 : Type := List Dii × List Dii × Int × Int × Bool
def meet_check_S5 (v : meet_check_Y5) : St := ⟨[(1, .fz Rii v.1), (14, .fz Rii v.2.1), (15, .int .i64 v.2.2.1), (16, .int .i64 v.2.2.2.1), (17, .bool v.2.2.2.2)], []⟩
def meet_check_r5 (C : meet_check_C) (v : meet_check_Y4) : Dt meet_check_Y5 := (Dt.ret (v.1, v.2.1, v.2.2.1, v.2.2.2, (decide (v.2.2.2 < v.2.2.1))))
theorem meet_check_g5 (C : meet_check_C) (v : meet_check_Y4) : treg tysT (orc (meet_check_tab C)) 39 (regO (bodyOf f20) 5) false [(1, (.val Rii)), (14, (.val Rii)), (15, .any), (16, .any), (17, .any)] (meet_check_S4 v) some = (meet_check_r5 C v).eval fun y => some (meet_check_S5 y) := by kernel_rfl
abbrev meet_check_Y6 : Type := List Dii × List Dii × Int × Int × Int × Int
def meet_check_S6 (v : meet_check_Y6) : St := ⟨[(1, .fz Rii v.1), (7, .ptr 0 0), (14, .fz Rii v.2.1), (15, .int .i64 v.2.2.1), (16, .int .i64 v.2.2.2.1)], [.cells [.int .i64 v.2.2.2.2.1, .int .i64 v.2.2.2.2.2]]⟩
def meet_check_r6 (C : meet_check_C) (v : meet_check_Y5) : Dt meet_check_Y6 := (Dt.ite (inB v.2.2.2.1 (List.length v.2.1)) (Dt.ret (v.1, v.2.1, v.2.2.1, v.2.2.2.1, (elt zii v.2.1 (v.2.2.2.1).toNat).1, (elt zii v.2.1 (v.2.2.2.1).toNat).2.1)) Dt.fail)
theorem meet_check_g6 (C : meet_check_C) (v : meet_check_Y5) : treg tysT (orc (meet_check_tab C)) 39 (regO (bodyOf f20) 6) false [(1, (.val Rii)), (7, .any), (14, (.val Rii)), (15, .any), (16, .any)] (meet_check_S5 v) some = (meet_check_r6 C v).eval fun y => some (meet_check_S6 y) := by kernel_rfl
abbrev meet_check_Y7 : Type := List Dii × Int × List Dii × Int × Int
def meet_check_S7 (v : meet_check_Y7) : St := ⟨[(1, .fz Rii v.1), (8, .int .i64 v.2.1), (14, .fz Rii v.2.2.1), (15, .int .i64 v.2.2.2.1), (16, .int .i64 v.2.2.2.2)], []⟩
def meet_check_r7 (C : meet_check_C) (v : meet_check_Y6) : Dt meet_check_Y7 := (Dt.bnd (C.2.1 ((v.2.2.2.2.1, v.2.2.2.2.2, ()), ())) fun r1 => (Dt.ret (v.1, r1, v.2.1, v.2.2.1, v.2.2.2.1)))
theorem meet_check_g7 (C : meet_check_C) (v : meet_check_Y6) : treg tysT (orc (meet_check_tab C)) 39 (regO (bodyOf f20) 7) false [(1, (.val Rii)), (8, .any), (14, (.val Rii)), (15, .any), (16, .any)] (meet_check_S6 v) some = (meet_check_r7 C v).eval fun y => some (meet_check_S7 y) := by kernel_rfl
abbrev meet_check_Y8 : Type := List Dii × Int × List Dii × Int × Int × Bool
def meet_check_S8 (v : meet_check_Y8) : St := ⟨[(1, .fz Rii v.1), (8, .int .i64 v.2.1), (14, .fz Rii v.2.2.1), (15, .int .i64 v.2.2.2.1), (16, .int .i64 v.2.2.2.2.1), (23, .bool v.2.2.2.2.2)], []⟩
def meet_check_r8 (C : meet_check_C) (v : meet_check_Y7) : Dt meet_check_Y8 := (Dt.ret (v.1, v.2.1, v.2.2.1, v.2.2.2.1, v.2.2.2.2, (v.2.1 != (0:Int))))
theorem meet_check_g8 (C : meet_check_C) (v : meet_check_Y7) : treg tysT (orc (meet_check_tab C)) 39 (regO (bodyOf f20) 8) false [(1, (.val Rii)), (8, .any), (14, (.val Rii)), (15, .any), (16, .any), (23, .any)] (meet_check_S7 v) some = (meet_check_r8 C v).eval fun y => some (meet_check_S8 y) := by kernel_rfl
def meet_check_r9 (C : meet_check_C) (v : meet_check_Y8) : Dt meet_check_Y3 := (Dt.ret v.2.1)
theorem meet_check_g9 (C : meet_check_C) (v : meet_check_Y8) : treg tysT (orc (meet_check_tab C)) 39 (regO (bodyOf f20) 9) false [(4, .any)] (meet_check_S8 v) some = (meet_check_r9 C v).eval fun y => some (meet_check_S3 y) := by kernel_rfl
def meet_check_r10 (C : meet_check_C) (v : meet_check_Y8) : Dt meet_check_Y4 := (Dt.ret (v.1, v.2.2.1, v.2.2.2.1, (IntKind.wrap .i64 (v.2.2.2.2.1 + (1:Int)))))
theorem meet_check_g10 (C : meet_check_C) (v : meet_check_Y8) : treg tysT (orc (meet_check_tab C)) 39 (regO (bodyOf f20) 10) false [(1, (.val Rii)), (14, (.val Rii)), (15, .any), (16, .any)] (meet_check_S8 v) some = (meet_check_r10 C v).eval fun y => some (meet_check_S4 y) := by kernel_rfl
abbrev meet_check_Y11 : Type := Bool
def meet_check_S11 (v : meet_check_Y11) : St := ⟨[(38, .bool v)], []⟩
def meet_check_r11 (C : meet_check_C) (v : meet_check_Y5) : Dt meet_check_Y11 := (Dt.ite ((List.length v.1 : Int) == (2:Int)) (Dt.ite (inB (0:Int) (List.length v.1)) (Dt.ite (inB (1:Int) (List.length v.1)) (Dt.bnd (C.2.2.1 (((elt zii v.1 ((0:Int)).toNat).1, (elt zii v.1 ((0:Int)).toNat).2.1, ()), ((elt zii v.1 ((1:Int)).toNat).1, (elt zii v.1 ((1:Int)).toNat).2.1, ()), ())) fun r1 => (Dt.ret (decide (r1 > (0:Int))))) Dt.fail) Dt.fail) (Dt.ret false))
theorem meet_check_g11 (C : meet_check_C) (v : meet_check_Y5) : treg tysT (orc (meet_check_tab C)) 39 (regO (bodyOf f20) 11) true [(38, .any)] (meet_check_S5 v) some = (meet_check_r11 C v).eval fun y => some (meet_check_S11 y) := by kernel_rfl
def meet_check_r12 (C : meet_check_C) (v : meet_check_Y11) : Dt meet_check_Y3 := (Dt.ret (2:Int))
theorem meet_check_g12 (C : meet_check_C) (v : meet_check_Y11) : treg tysT (orc (meet_check_tab C)) 39 (regO (bodyOf f20) 12) false [(4, .any)] (meet_check_S11 v) some = (meet_check_r12 C v).eval fun y => some (meet_check_S3 y) := by kernel_rfl
def meet_check_r13 (C : meet_check_C) (v : meet_check_Y11) : Dt meet_check_Y3 := (Dt.ret (0:Int))
theorem meet_check_g13 (C : meet_check_C) (v : meet_check_Y11) : treg tysT (orc (meet_check_tab C)) 39 (regO (bodyOf f20) 13) false [(4, .any)] (meet_check_S11 v) some = (meet_check_r13 C v).eval fun y => some (meet_check_S3 y) := by kernel_rfl
def meet_check_L1 (d : Nat) (self1 : (List Dii × List Dii × Int × Int) → Option meet_check_R) (x1 : List Dii × List Dii × Int × Int) : Option meet_check_R :=
  (meet_check_r5 (meet_check_K d) x1).eval fun y5 =>
  bif y5.2.2.2.2 then ((meet_check_r6 (meet_check_K d) y5).eval fun y6 =>
  (meet_check_r7 (meet_check_K d) y6).eval fun y7 =>
  (meet_check_r8 (meet_check_K d) y7).eval fun y8 =>
  bif y8.2.2.2.2.2 then ((meet_check_r9 (meet_check_K d) y8).eval fun y9 =>
  some y9) else ((meet_check_r10 (meet_check_K d) y8).eval fun y10 =>
  self1 y10)) else ((meet_check_r11 (meet_check_K d) y5).eval fun y11 =>
  bif y11 then ((meet_check_r12 (meet_check_K d) y11).eval fun y12 =>
  some y12) else ((meet_check_r13 (meet_check_K d) y11).eval fun y13 =>
  some y13))
def F_meet_check (d : Nat) (x : meet_check_X) : Option meet_check_R :=
  (meet_check_r0 (meet_check_K d) (x.1.1, x.2.1.1)).eval fun y0 =>
  (meet_check_r1 (meet_check_K d) y0).eval fun y1 =>
  (meet_check_r2 (meet_check_K d) y1).eval fun y2 =>
  bif y2.2.2 then ((meet_check_r3 (meet_check_K d) y2).eval fun y3 =>
  some y3) else ((meet_check_r4 (meet_check_K d) y2).eval fun y4 =>
  iter (meet_check_L1 d ) d y4)
theorem meet_check_cok (d : Nat) : COK prog (meet_check_sp (F_meet_check d)) := by
  have hm : prog.follows .mixedOrders = true := mixed
  have hT := tys
  have hC0 : OrcOK prog (orc (meet_check_tab (meet_check_K d))) := orc_ok (by
    intro S hS
    simp only [meet_check_tab, List.mem_cons, List.not_mem_nil, or_false] at hS
    rcases hS with rfl | rfl | rfl
    · exact field_Check_cok d
    · exact ratio_Check_cok d
    · exact meet_later_cok d)
  have hC : OrcOK prog (orc (meet_check_tab (meet_check_K d))) := hC0
  refine cok_of (c := bodyOf f20) (fn := f20) hT (by kernel_rfl) (by kernel_rfl) (by decide) fun x r h w0 φ0 Q hend => ?_
  replace h : F_meet_check d x = some r := h
  unfold F_meet_check at h
  show Run prog w0 φ0 39 (bodyOf f20) ⟨[(0, .agg [.fz Riii x.1.1]), (1, .fz Rii x.2.1.1)], []⟩ Q
  refine run_seq ?_
  refine run_reg hm hT hC (meet_check_g0 (meet_check_K d) (x.1.1, x.2.1.1)) h ?_
  intro y0 h
  refine cn_then ?_
  refine run_seq ?_
  refine run_seq ?_
  refine run_reg hm hT hC (meet_check_g1 (meet_check_K d) y0) h ?_
  intro y1 h
  refine cn_then ?_
  refine run_seq ?_
  refine run_reg hm hT hC (meet_check_g2 (meet_check_K d) y1) h ?_
  intro y2 h
  refine cn_then ?_
  refine run_cond (v := y2.2.2) (by kernel_rfl) h ?_ ?_
  ·
    intro h
    refine run_seq ?_
    refine run_reg hm hT hC (meet_check_g3 (meet_check_K d) y2) h ?_
    intro y3 h
    refine cn_then ?_
    refine run_ret ?_
    refine cn_then_ret ?_
    cases h
    exact (hend _ (by kernel_rfl)).2
  ·
    intro h
    refine run_skip ?_
    refine cn_then ?_
    refine run_seq ?_
    refine run_seq ?_
    refine run_reg hm hT hC (meet_check_g4 (meet_check_K d) y2) h ?_
    intro y4 h
    refine cn_then ?_
    refine run_block ?_
    refine run_loop (G := iter (meet_check_L1 d )) (S := (fun x1 => ⟨[(1, .fz Rii x1.1), (14, .fz Rii x1.2.1), (15, .int .i64 x1.2.2.1), (16, .int .i64 x1.2.2.2)], []⟩ : List Dii × List Dii × Int × Int → St)) (fun _ => rfl) ?_ d _ h
    intro n1 x1 h K1 hn1
    replace h : meet_check_L1 d  (iter (meet_check_L1 d ) n1) x1 = some r := h
    generalize iter (meet_check_L1 d ) n1 = self1 at h hn1
    unfold meet_check_L1 at h
    refine run_seq ?_
    refine run_reg hm hT hC (meet_check_g5 (meet_check_K d) x1) h ?_
    intro y5 h
    refine cn_then ?_
    refine run_seq ?_
    refine run_cond (v := y5.2.2.2.2) (by kernel_rfl) h ?_ ?_
    ·
      intro h
      refine run_skip ?_
      refine cn_then ?_
      refine run_seq ?_
      refine run_block ?_
      refine run_seq ?_
      refine run_reg hm hT hC (meet_check_g6 (meet_check_K d) y5) h ?_
      intro y6 h
      refine cn_then ?_
      refine run_seq ?_
      refine run_reg hm hT hC (meet_check_g7 (meet_check_K d) y6) h ?_
      intro y7 h
      refine cn_then ?_
      refine run_seq ?_
      refine run_reg hm hT hC (meet_check_g8 (meet_check_K d) y7) h ?_
      intro y8 h
      refine cn_then ?_
      refine run_cond (v := y8.2.2.2.2.2) (by kernel_rfl) h ?_ ?_
      ·
        intro h
        refine run_seq ?_
        refine run_reg hm hT hC (meet_check_g9 (meet_check_K d) y8) h ?_
        intro y9 h
        refine cn_then ?_
        refine run_ret ?_
        refine cn_blk_ret ?_
        refine cn_then_ret ?_
        refine cn_then_ret ?_
        refine cn_blk_ret ?_
        refine cn_then_ret ?_
        cases h
        exact (hend _ (by kernel_rfl)).2
      ·
        intro h
        refine run_skip ?_
        refine cn_blk ?_
        refine cn_then ?_
        refine run_reg hm hT hC (meet_check_g10 (meet_check_K d) y8) h ?_
        intro y10 h
        exact hn1 _ h
    ·
      intro h
      refine run_exit ?_
      refine cn_then_exit ?_
      refine cn_then_exit ?_
      refine cn_blk_eq ?_
      refine cn_then ?_
      refine run_seq ?_
      refine run_seq ?_
      refine run_reg hm hT hC (meet_check_g11 (meet_check_K d) y5) h ?_
      intro y11 h
      refine cn_then ?_
      refine run_cond (v := y11) (by kernel_rfl) h ?_ ?_
      ·
        intro h
        refine run_seq ?_
        refine run_reg hm hT hC (meet_check_g12 (meet_check_K d) y11) h ?_
        intro y12 h
        refine cn_then ?_
        refine run_ret ?_
        refine cn_then_ret ?_
        cases h
        exact (hend _ (by kernel_rfl)).2
      ·
        intro h
        refine run_skip ?_
        refine cn_then ?_
        refine run_seq ?_
        refine run_reg hm hT hC (meet_check_g13 (meet_check_K d) y11) h ?_
        intro y13 h
        refine cn_then ?_
        refine run_ret ?_
        cases h
        exact (hend _ (by kernel_rfl)).2
abbrev meet_pairs_ps : List Pk := [.row RLiiiE true]
abbrev meet_pairs_X : Type := DLiiiE × Unit
abbrev meet_pairs_R : Type := List Diii
def meet_pairs_enc (r : meet_pairs_R) : LV × List Ob := (.fn 53 [.ptr 0 0], [.cells [.fz Riii r]])
def meet_pairs_sp (F : meet_pairs_X → Option meet_pairs_R) : Go.Tx.Spec := ⟨36, meet_pairs_ps, meet_pairs_R, F, meet_pairs_enc⟩
abbrev meet_pairs_C : Type := Unit
def meet_pairs_K (_d : Nat) : meet_pairs_C := ()
def meet_pairs_tab (C : meet_pairs_C) : List Go.Tx.Spec := []
abbrev meet_pairs_Y0i : Type := List Diii
def meet_pairs_S0i (v : meet_pairs_Y0i) : St := ⟨[(0, .agg [.fz Riii v])], []⟩
abbrev meet_pairs_Y0 : Type := List Diii
def meet_pairs_S0 (v : meet_pairs_Y0) : St := ⟨[(1, .ptr 0 0)], [.cells [.fz Riii v]]⟩
def meet_pairs_r0 (C : meet_pairs_C) (v : meet_pairs_Y0i) : Dt meet_pairs_Y0 := (Dt.ret v)
theorem meet_pairs_g0 (C : meet_pairs_C) (v : meet_pairs_Y0i) : treg tysT (orc (meet_pairs_tab C)) 4 (regO (bodyOf f36) 0) false [(1, (.box [.val Riii]))] (meet_pairs_S0i v) some = (meet_pairs_r0 C v).eval fun y => some (meet_pairs_S0 y) := by kernel_rfl
abbrev meet_pairs_Y1 : Type := List Diii
def meet_pairs_S1 (v : meet_pairs_Y1) : St := ⟨[(2, .fn 53 [.ptr 0 0])], [.cells [.fz Riii v]]⟩
def meet_pairs_r1 (C : meet_pairs_C) (v : meet_pairs_Y0) : Dt meet_pairs_Y1 := (Dt.ret v)
theorem meet_pairs_g1 (C : meet_pairs_C) (v : meet_pairs_Y0) : treg tysT (orc (meet_pairs_tab C)) 4 (regO (bodyOf f36) 1) false [(2, .any)] (meet_pairs_S0 v) some = (meet_pairs_r1 C v).eval fun y => some (meet_pairs_S1 y) := by kernel_rfl
def F_meet_pairs (d : Nat) (x : meet_pairs_X) : Option meet_pairs_R :=
  (meet_pairs_r0 (meet_pairs_K d) x.1.1).eval fun y0 =>
  (meet_pairs_r1 (meet_pairs_K d) y0).eval fun y1 =>
  some y1
theorem meet_pairs_cok (d : Nat) : COK prog (meet_pairs_sp (F_meet_pairs d)) := by
  have hm : prog.follows .mixedOrders = true := mixed
  have hT := tys
  have hC0 : OrcOK prog (orc (meet_pairs_tab (meet_pairs_K d))) := orc_ok (by
    intro S hS
    simp only [meet_pairs_tab, List.mem_cons, List.not_mem_nil, or_false] at hS
    all_goals first | cases hS | exact hS.elim)
  have hC : OrcOK prog (orc (meet_pairs_tab (meet_pairs_K d))) := hC0
  refine cok_of (c := bodyOf f36) (fn := f36) hT (by kernel_rfl) (by kernel_rfl) (by decide) fun x r h w0 φ0 Q hend => ?_
  replace h : F_meet_pairs d x = some r := h
  unfold F_meet_pairs at h
  show Run prog w0 φ0 4 (bodyOf f36) ⟨[(0, .agg [.fz Riii x.1.1])], []⟩ Q
  refine run_seq ?_
  refine run_reg hm hT hC (meet_pairs_g0 (meet_pairs_K d) x.1.1) h ?_
  intro y0 h
  refine cn_then ?_
  refine run_seq ?_
  refine run_reg hm hT hC (meet_pairs_g1 (meet_pairs_K d) y0) h ?_
  intro y1 h
  refine cn_then ?_
  refine run_ret ?_
  cases h
  exact (hend _ (by kernel_rfl)).2
abbrev cmp_isNaN_int_ps : List Pk := [.row Ri false]
abbrev cmp_isNaN_int_X : Type := Di × Unit
abbrev cmp_isNaN_int_R : Type := Bool
def cmp_isNaN_int_enc (r : cmp_isNaN_int_R) : LV × List Ob := (.bool r, [])
def cmp_isNaN_int_sp (F : cmp_isNaN_int_X → Option cmp_isNaN_int_R) : Go.Tx.Spec := ⟨80, cmp_isNaN_int_ps, cmp_isNaN_int_R, F, cmp_isNaN_int_enc⟩
abbrev cmp_isNaN_int_C : Type := Unit
def cmp_isNaN_int_K (_d : Nat) : cmp_isNaN_int_C := ()
def cmp_isNaN_int_tab (C : cmp_isNaN_int_C) : List Go.Tx.Spec := []
abbrev cmp_isNaN_int_Y0i : Type := Int
def cmp_isNaN_int_S0i (v : cmp_isNaN_int_Y0i) : St := ⟨[(0, .int .i64 v)], []⟩
def cmp_isNaN_int_r0 (C : cmp_isNaN_int_C) (v : cmp_isNaN_int_Y0i) : Dt cmp_isNaN_int_Y0i := (Dt.ret v)
theorem cmp_isNaN_int_g0 (C : cmp_isNaN_int_C) (v : cmp_isNaN_int_Y0i) : treg tysT (orc (cmp_isNaN_int_tab C)) 6 (regO (bodyOf f80) 0) false [(0, .any)] (cmp_isNaN_int_S0i v) some = (cmp_isNaN_int_r0 C v).eval fun y => some (cmp_isNaN_int_S0i y) := by kernel_rfl
abbrev cmp_isNaN_int_Y1 : Type := Bool
def cmp_isNaN_int_S1 (v : cmp_isNaN_int_Y1) : St := ⟨[(2, .bool v)], []⟩
def cmp_isNaN_int_r1 (C : cmp_isNaN_int_C) (v : cmp_isNaN_int_Y0i) : Dt cmp_isNaN_int_Y1 := (Dt.ret (v != v))
theorem cmp_isNaN_int_g1 (C : cmp_isNaN_int_C) (v : cmp_isNaN_int_Y0i) : treg tysT (orc (cmp_isNaN_int_tab C)) 6 (regO (bodyOf f80) 1) false [(2, .any)] (cmp_isNaN_int_S0i v) some = (cmp_isNaN_int_r1 C v).eval fun y => some (cmp_isNaN_int_S1 y) := by kernel_rfl
def F_cmp_isNaN_int (d : Nat) (x : cmp_isNaN_int_X) : Option cmp_isNaN_int_R :=
  (cmp_isNaN_int_r0 (cmp_isNaN_int_K d) x.1.1).eval fun y0 =>
  (cmp_isNaN_int_r1 (cmp_isNaN_int_K d) y0).eval fun y1 =>
  some y1
theorem cmp_isNaN_int_cok (d : Nat) : COK prog (cmp_isNaN_int_sp (F_cmp_isNaN_int d)) := by
  have hm : prog.follows .mixedOrders = true := mixed
  have hT := tys
  have hC0 : OrcOK prog (orc (cmp_isNaN_int_tab (cmp_isNaN_int_K d))) := orc_ok (by
    intro S hS
    simp only [cmp_isNaN_int_tab, List.mem_cons, List.not_mem_nil, or_false] at hS
    all_goals first | cases hS | exact hS.elim)
  have hC : OrcOK prog (orc (cmp_isNaN_int_tab (cmp_isNaN_int_K d))) := hC0
  refine cok_of (c := bodyOf f80) (fn := f80) hT (by kernel_rfl) (by kernel_rfl) (by decide) fun x r h w0 φ0 Q hend => ?_
  replace h : F_cmp_isNaN_int d x = some r := h
  unfold F_cmp_isNaN_int at h
  show Run prog w0 φ0 6 (bodyOf f80) ⟨[(0, .int .i64 x.1.1)], []⟩ Q
  refine run_seq ?_
  refine run_reg hm hT hC (cmp_isNaN_int_g0 (cmp_isNaN_int_K d) x.1.1) h ?_
  intro y0 h
  refine cn_then ?_
  refine run_seq ?_
  refine run_reg hm hT hC (cmp_isNaN_int_g1 (cmp_isNaN_int_K d) y0) h ?_
  intro y1 h
  refine cn_then ?_
  refine run_ret ?_
  cases h
  exact (hend _ (by kernel_rfl)).2
abbrev cmp_Compare_int_ps : List Pk := [.row Ri false, .row Ri false]
abbrev cmp_Compare_int_X : Type := Di × Di × Unit
abbrev cmp_Compare_int_R : Type := Int
def cmp_Compare_int_enc (r : cmp_Compare_int_R) : LV × List Ob := (.int .i64 r, [])
def cmp_Compare_int_sp (F : cmp_Compare_int_X → Option cmp_Compare_int_R) : Go.Tx.Spec := ⟨59, cmp_Compare_int_ps, cmp_Compare_int_R, F, cmp_Compare_int_enc⟩
abbrev cmp_Compare_int_C : Type := (cmp_isNaN_int_X → Option cmp_isNaN_int_R) × Unit
def cmp_Compare_int_K (d : Nat) : cmp_Compare_int_C := (F_cmp_isNaN_int d, ())
def cmp_Compare_int_tab (C : cmp_Compare_int_C) : List Go.Tx.Spec := [cmp_isNaN_int_sp C.1]
abbrev cmp_Compare_int_Y0i : Type := Int × Int
def cmp_Compare_int_S0i (v : cmp_Compare_int_Y0i) : St := ⟨[(0, .int .i64 v.1), (1, .int .i64 v.2)], []⟩
def cmp_Compare_int_r0 (C : cmp_Compare_int_C) (v : cmp_Compare_int_Y0i) : Dt cmp_Compare_int_Y0i := (Dt.ret (v.1, v.2))
theorem cmp_Compare_int_g0 (C : cmp_Compare_int_C) (v : cmp_Compare_int_Y0i) : treg tysT (orc (cmp_Compare_int_tab C)) 20 (regO (bodyOf f59) 0) false [(0, .any), (1, .any)] (cmp_Compare_int_S0i v) some = (cmp_Compare_int_r0 C v).eval fun y => some (cmp_Compare_int_S0i y) := by kernel_rfl
abbrev cmp_Compare_int_Y1 : Type := Int × Int × Bool
def cmp_Compare_int_S1 (v : cmp_Compare_int_Y1) : St := ⟨[(0, .int .i64 v.1), (1, .int .i64 v.2.1), (5, .bool v.2.2)], []⟩
def cmp_Compare_int_r1 (C : cmp_Compare_int_C) (v : cmp_Compare_int_Y0i) : Dt cmp_Compare_int_Y1 := (Dt.bnd (C.1 ((v.1, ()), ())) fun r1 => (Dt.ret (v.1, v.2, r1)))
theorem cmp_Compare_int_g1 (C : cmp_Compare_int_C) (v : cmp_Compare_int_Y0i) : treg tysT (orc (cmp_Compare_int_tab C)) 20 (regO (bodyOf f59) 1) false [(0, .any), (1, .any), (5, .any)] (cmp_Compare_int_S0i v) some = (cmp_Compare_int_r1 C v).eval fun y => some (cmp_Compare_int_S1 y) := by kernel_rfl
abbrev cmp_Compare_int_Y2 : Type := Int × Int × Bool × Bool
def cmp_Compare_int_S2 (v : cmp_Compare_int_Y2) : St := ⟨[(0, .int .i64 v.1), (1, .int .i64 v.2.1), (5, .bool v.2.2.1), (6, .bool v.2.2.2)], []⟩
def cmp_Compare_int_r2 (C : cmp_Compare_int_C) (v : cmp_Compare_int_Y1) : Dt cmp_Compare_int_Y2 := (Dt.bnd (C.1 ((v.2.1, ()), ())) fun r1 => (Dt.ret (v.1, v.2.1, v.2.2, r1)))
theorem cmp_Compare_int_g2 (C : cmp_Compare_int_C) (v : cmp_Compare_int_Y1) : treg tysT (orc (cmp_Compare_int_tab C)) 20 (regO (bodyOf f59) 2) false [(0, .any), (1, .any), (5, .any), (6, .any)] (cmp_Compare_int_S1 v) some = (cmp_Compare_int_r2 C v).eval fun y => some (cmp_Compare_int_S2 y) := by kernel_rfl
abbrev cmp_Compare_int_Y3 : Type := Int × Int × Bool × Bool
def cmp_Compare_int_S3 (v : cmp_Compare_int_Y3) : St := ⟨[(0, .int .i64 v.1), (1, .int .i64 v.2.1), (6, .bool v.2.2.1), (11, .bool v.2.2.2)], []⟩
def cmp_Compare_int_r3 (C : cmp_Compare_int_C) (v : cmp_Compare_int_Y2) : Dt cmp_Compare_int_Y3 := (Dt.ret (v.1, v.2.1, v.2.2.2, v.2.2.1))
theorem cmp_Compare_int_g3 (C : cmp_Compare_int_C) (v : cmp_Compare_int_Y2) : treg tysT (orc (cmp_Compare_int_tab C)) 20 (regO (bodyOf f59) 3) false [(0, .any), (1, .any), (6, .any), (11, .any)] (cmp_Compare_int_S2 v) some = (cmp_Compare_int_r3 C v).eval fun y => some (cmp_Compare_int_S3 y) := by kernel_rfl
abbrev cmp_Compare_int_Y4 : Type := Bool
def cmp_Compare_int_S4 (v : cmp_Compare_int_Y4) : St := ⟨[(12, .bool v)], []⟩
def cmp_Compare_int_r4 (C : cmp_Compare_int_C) (v : cmp_Compare_int_Y3) : Dt cmp_Compare_int_Y4 := (Dt.ret v.2.2.1)
theorem cmp_Compare_int_g4 (C : cmp_Compare_int_C) (v : cmp_Compare_int_Y3) : treg tysT (orc (cmp_Compare_int_tab C)) 20 (regO (bodyOf f59) 4) false [(12, .any)] (cmp_Compare_int_S3 v) some = (cmp_Compare_int_r4 C v).eval fun y => some (cmp_Compare_int_S4 y) := by kernel_rfl
abbrev cmp_Compare_int_Y5 : Type := Int
def cmp_Compare_int_S5 (v : cmp_Compare_int_Y5) : St := ⟨[(4, .int .i64 v)], []⟩
def cmp_Compare_int_r5 (C : cmp_Compare_int_C) (v : cmp_Compare_int_Y4) : Dt cmp_Compare_int_Y5 := (Dt.ret (0:Int))
theorem cmp_Compare_int_g5 (C : cmp_Compare_int_C) (v : cmp_Compare_int_Y4) : treg tysT (orc (cmp_Compare_int_tab C)) 20 (regO (bodyOf f59) 5) false [(4, .any)] (cmp_Compare_int_S4 v) some = (cmp_Compare_int_r5 C v).eval fun y => some (cmp_Compare_int_S5 y) := by kernel_rfl
def cmp_Compare_int_r6 (C : cmp_Compare_int_C) (v : cmp_Compare_int_Y4) : Dt cmp_Compare_int_Y5 := (Dt.ret (-1:Int))
theorem cmp_Compare_int_g6 (C : cmp_Compare_int_C) (v : cmp_Compare_int_Y4) : treg tysT (orc (cmp_Compare_int_tab C)) 20 (regO (bodyOf f59) 6) false [(4, .any)] (cmp_Compare_int_S4 v) some = (cmp_Compare_int_r6 C v).eval fun y => some (cmp_Compare_int_S5 y) := by kernel_rfl
abbrev cmp_Compare_int_Y7 : Type := Int × Int × Bool
def cmp_Compare_int_S7 (v : cmp_Compare_int_Y7) : St := ⟨[(0, .int .i64 v.1), (1, .int .i64 v.2.1), (13, .bool v.2.2)], []⟩
def cmp_Compare_int_r7 (C : cmp_Compare_int_C) (v : cmp_Compare_int_Y3) : Dt cmp_Compare_int_Y7 := (Dt.ret (v.1, v.2.1, v.2.2.1))
theorem cmp_Compare_int_g7 (C : cmp_Compare_int_C) (v : cmp_Compare_int_Y3) : treg tysT (orc (cmp_Compare_int_tab C)) 20 (regO (bodyOf f59) 7) false [(0, .any), (1, .any), (13, .any)] (cmp_Compare_int_S3 v) some = (cmp_Compare_int_r7 C v).eval fun y => some (cmp_Compare_int_S7 y) := by kernel_rfl
def cmp_Compare_int_r8 (C : cmp_Compare_int_C) (v : cmp_Compare_int_Y7) : Dt cmp_Compare_int_Y5 := (Dt.ret (1:Int))
theorem cmp_Compare_int_g8 (C : cmp_Compare_int_C) (v : cmp_Compare_int_Y7) : treg tysT (orc (cmp_Compare_int_tab C)) 20 (regO (bodyOf f59) 8) false [(4, .any)] (cmp_Compare_int_S7 v) some = (cmp_Compare_int_r8 C v).eval fun y => some (cmp_Compare_int_S5 y) := by kernel_rfl
abbrev cmp_Compare_int_Y9 : Type := Int × Int × Bool
def cmp_Compare_int_S9 (v : cmp_Compare_int_Y9) : St := ⟨[(0, .int .i64 v.1), (1, .int .i64 v.2.1), (16, .bool v.2.2)], []⟩
def cmp_Compare_int_r9 (C : cmp_Compare_int_C) (v : cmp_Compare_int_Y7) : Dt cmp_Compare_int_Y9 := (Dt.ret (v.1, v.2.1, (decide (v.1 < v.2.1))))
theorem cmp_Compare_int_g9 (C : cmp_Compare_int_C) (v : cmp_Compare_int_Y7) : treg tysT (orc (cmp_Compare_int_tab C)) 20 (regO (bodyOf f59) 9) false [(0, .any), (1, .any), (16, .any)] (cmp_Compare_int_S7 v) some = (cmp_Compare_int_r9 C v).eval fun y => some (cmp_Compare_int_S9 y) := by kernel_rfl
def cmp_Compare_int_r10 (C : cmp_Compare_int_C) (v : cmp_Compare_int_Y9) : Dt cmp_Compare_int_Y5 := (Dt.ret (-1:Int))
theorem cmp_Compare_int_g10 (C : cmp_Compare_int_C) (v : cmp_Compare_int_Y9) : treg tysT (orc (cmp_Compare_int_tab C)) 20 (regO (bodyOf f59) 10) false [(4, .any)] (cmp_Compare_int_S9 v) some = (cmp_Compare_int_r10 C v).eval fun y => some (cmp_Compare_int_S5 y) := by kernel_rfl
abbrev cmp_Compare_int_Y11 : Type := Bool
def cmp_Compare_int_S11 (v : cmp_Compare_int_Y11) : St := ⟨[(19, .bool v)], []⟩
def cmp_Compare_int_r11 (C : cmp_Compare_int_C) (v : cmp_Compare_int_Y9) : Dt cmp_Compare_int_Y11 := (Dt.ret (decide (v.1 > v.2.1)))
theorem cmp_Compare_int_g11 (C : cmp_Compare_int_C) (v : cmp_Compare_int_Y9) : treg tysT (orc (cmp_Compare_int_tab C)) 20 (regO (bodyOf f59) 11) false [(19, .any)] (cmp_Compare_int_S9 v) some = (cmp_Compare_int_r11 C v).eval fun y => some (cmp_Compare_int_S11 y) := by kernel_rfl
def cmp_Compare_int_r12 (C : cmp_Compare_int_C) (v : cmp_Compare_int_Y11) : Dt cmp_Compare_int_Y5 := (Dt.ret (1:Int))
theorem cmp_Compare_int_g12 (C : cmp_Compare_int_C) (v : cmp_Compare_int_Y11) : treg tysT (orc (cmp_Compare_int_tab C)) 20 (regO (bodyOf f59) 12) false [(4, .any)] (cmp_Compare_int_S11 v) some = (cmp_Compare_int_r12 C v).eval fun y => some (cmp_Compare_int_S5 y) := by kernel_rfl
def cmp_Compare_int_r13 (C : cmp_Compare_int_C) (v : cmp_Compare_int_Y11) : Dt cmp_Compare_int_Y5 := (Dt.ret (0:Int))
theorem cmp_Compare_int_g13 (C : cmp_Compare_int_C) (v : cmp_Compare_int_Y11) : treg tysT (orc (cmp_Compare_int_tab C)) 20 (regO (bodyOf f59) 13) false [(4, .any)] (cmp_Compare_int_S11 v) some = (cmp_Compare_int_r13 C v).eval fun y => some (cmp_Compare_int_S5 y) := by kernel_rfl
def F_cmp_Compare_int (d : Nat) (x : cmp_Compare_int_X) : Option cmp_Compare_int_R :=
  (cmp_Compare_int_r0 (cmp_Compare_int_K d) (x.1.1, x.2.1.1)).eval fun y0 =>
  (cmp_Compare_int_r1 (cmp_Compare_int_K d) y0).eval fun y1 =>
  (cmp_Compare_int_r2 (cmp_Compare_int_K d) y1).eval fun y2 =>
  (cmp_Compare_int_r3 (cmp_Compare_int_K d) y2).eval fun y3 =>
  bif y3.2.2.2 then ((cmp_Compare_int_r4 (cmp_Compare_int_K d) y3).eval fun y4 =>
  bif y4 then ((cmp_Compare_int_r5 (cmp_Compare_int_K d) y4).eval fun y5 =>
  some y5) else ((cmp_Compare_int_r6 (cmp_Compare_int_K d) y4).eval fun y6 =>
  some y6)) else ((cmp_Compare_int_r7 (cmp_Compare_int_K d) y3).eval fun y7 =>
  bif y7.2.2 then ((cmp_Compare_int_r8 (cmp_Compare_int_K d) y7).eval fun y8 =>
  some y8) else ((cmp_Compare_int_r9 (cmp_Compare_int_K d) y7).eval fun y9 =>
  bif y9.2.2 then ((cmp_Compare_int_r10 (cmp_Compare_int_K d) y9).eval fun y10 =>
  some y10) else ((cmp_Compare_int_r11 (cmp_Compare_int_K d) y9).eval fun y11 =>
  bif y11 then ((cmp_Compare_int_r12 (cmp_Compare_int_K d) y11).eval fun y12 =>
  some y12) else ((cmp_Compare_int_r13 (cmp_Compare_int_K d) y11).eval fun y13 =>
  some y13))))
theorem cmp_Compare_int_cok (d : Nat) : COK prog (cmp_Compare_int_sp (F_cmp_Compare_int d)) := by
  have hm : prog.follows .mixedOrders = true := mixed
  have hT := tys
  have hC0 : OrcOK prog (orc (cmp_Compare_int_tab (cmp_Compare_int_K d))) := orc_ok (by
    intro S hS
    simp only [cmp_Compare_int_tab, List.mem_cons, List.not_mem_nil, or_false] at hS
    subst hS; exact cmp_isNaN_int_cok d)
  have hC : OrcOK prog (orc (cmp_Compare_int_tab (cmp_Compare_int_K d))) := hC0
  refine cok_of (c := bodyOf f59) (fn := f59) hT (by kernel_rfl) (by kernel_rfl) (by decide) fun x r h w0 φ0 Q hend => ?_
  replace h : F_cmp_Compare_int d x = some r := h
  unfold F_cmp_Compare_int at h
  show Run prog w0 φ0 20 (bodyOf f59) ⟨[(0, .int .i64 x.1.1), (1, .int .i64 x.2.1.1)], []⟩ Q
  refine run_seq ?_
  refine run_reg hm hT hC (cmp_Compare_int_g0 (cmp_Compare_int_K d) (x.1.1, x.2.1.1)) h ?_
  intro y0 h
  refine cn_then ?_
  refine run_seq ?_
  refine run_reg hm hT hC (cmp_Compare_int_g1 (cmp_Compare_int_K d) y0) h ?_
  intro y1 h
  refine cn_then ?_
  refine run_seq ?_
  refine run_reg hm hT hC (cmp_Compare_int_g2 (cmp_Compare_int_K d) y1) h ?_
  intro y2 h
  refine cn_then ?_
  refine run_seq ?_
  refine run_seq ?_
  refine run_reg hm hT hC (cmp_Compare_int_g3 (cmp_Compare_int_K d) y2) h ?_
  intro y3 h
  refine cn_then ?_
  refine run_cond (v := y3.2.2.2) (by kernel_rfl) h ?_ ?_
  ·
    intro h
    refine run_seq ?_
    refine run_seq ?_
    refine run_reg hm hT hC (cmp_Compare_int_g4 (cmp_Compare_int_K d) y3) h ?_
    intro y4 h
    refine cn_then ?_
    refine run_cond (v := y4) (by kernel_rfl) h ?_ ?_
    ·
      intro h
      refine run_seq ?_
      refine run_reg hm hT hC (cmp_Compare_int_g5 (cmp_Compare_int_K d) y4) h ?_
      intro y5 h
      refine cn_then ?_
      refine run_ret ?_
      refine cn_then_ret ?_
      refine cn_then_ret ?_
      cases h
      exact (hend _ (by kernel_rfl)).2
    ·
      intro h
      refine run_skip ?_
      refine cn_then ?_
      refine run_seq ?_
      refine run_reg hm hT hC (cmp_Compare_int_g6 (cmp_Compare_int_K d) y4) h ?_
      intro y6 h
      refine cn_then ?_
      refine run_ret ?_
      refine cn_then_ret ?_
      cases h
      exact (hend _ (by kernel_rfl)).2
  ·
    intro h
    refine run_skip ?_
    refine cn_then ?_
    refine run_seq ?_
    refine run_seq ?_
    refine run_reg hm hT hC (cmp_Compare_int_g7 (cmp_Compare_int_K d) y3) h ?_
    intro y7 h
    refine cn_then ?_
    refine run_cond (v := y7.2.2) (by kernel_rfl) h ?_ ?_
    ·
      intro h
      refine run_seq ?_
      refine run_reg hm hT hC (cmp_Compare_int_g8 (cmp_Compare_int_K d) y7) h ?_
      intro y8 h
      refine cn_then ?_
      refine run_ret ?_
      refine cn_then_ret ?_
      cases h
      exact (hend _ (by kernel_rfl)).2
    ·
      intro h
      refine run_skip ?_
      refine cn_then ?_
      refine run_seq ?_
      refine run_seq ?_
      refine run_reg hm hT hC (cmp_Compare_int_g9 (cmp_Compare_int_K d) y7) h ?_
      intro y9 h
      refine cn_then ?_
      refine run_cond (v := y9.2.2) (by kernel_rfl) h ?_ ?_
      ·
        intro h
        refine run_seq ?_
        refine run_reg hm hT hC (cmp_Compare_int_g10 (cmp_Compare_int_K d) y9) h ?_
        intro y10 h
        refine cn_then ?_
        refine run_ret ?_
        refine cn_then_ret ?_
        cases h
        exact (hend _ (by kernel_rfl)).2
      ·
        intro h
        refine run_skip ?_
        refine cn_then ?_
        refine run_seq ?_
        refine run_seq ?_
        refine run_reg hm hT hC (cmp_Compare_int_g11 (cmp_Compare_int_K d) y9) h ?_
        intro y11 h
        refine cn_then ?_
        refine run_cond (v := y11) (by kernel_rfl) h ?_ ?_
        ·
          intro h
          refine run_seq ?_
          refine run_reg hm hT hC (cmp_Compare_int_g12 (cmp_Compare_int_K d) y11) h ?_
          intro y12 h
          refine cn_then ?_
          refine run_ret ?_
          refine cn_then_ret ?_
          cases h
          exact (hend _ (by kernel_rfl)).2
        ·
          intro h
          refine run_skip ?_
          refine cn_then ?_
          refine run_seq ?_
          refine run_reg hm hT hC (cmp_Compare_int_g13 (cmp_Compare_int_K d) y11) h ?_
          intro y13 h
          refine cn_then ?_
          refine run_ret ?_
          cases h
          exact (hend _ (by kernel_rfl)).2
abbrev cmp_Or_int_ps : List Pk := [.row RLiE false]
abbrev cmp_Or_int_X : Type := DLiE × Unit
abbrev cmp_Or_int_R : Type := Int
def cmp_Or_int_enc (r : cmp_Or_int_R) : LV × List Ob := (.int .i64 r, [])
def cmp_Or_int_sp (F : cmp_Or_int_X → Option cmp_Or_int_R) : Go.Tx.Spec := ⟨58, cmp_Or_int_ps, cmp_Or_int_R, F, cmp_Or_int_enc⟩
abbrev cmp_Or_int_C : Type := Unit
def cmp_Or_int_K (_d : Nat) : cmp_Or_int_C := ()
def cmp_Or_int_tab (C : cmp_Or_int_C) : List Go.Tx.Spec := []
abbrev cmp_Or_int_Y0i : Type := List Di
def cmp_Or_int_S0i (v : cmp_Or_int_Y0i) : St := ⟨[(0, .fz Ri v)], []⟩
def cmp_Or_int_r0 (C : cmp_Or_int_C) (v : cmp_Or_int_Y0i) : Dt cmp_Or_int_Y0i := (Dt.ret v)
theorem cmp_Or_int_g0 (C : cmp_Or_int_C) (v : cmp_Or_int_Y0i) : treg tysT (orc (cmp_Or_int_tab C)) 18 (regO (bodyOf f58) 0) false [(0, (.val Ri))] (cmp_Or_int_S0i v) some = (cmp_Or_int_r0 C v).eval fun y => some (cmp_Or_int_S0i y) := by kernel_rfl
abbrev cmp_Or_int_Y1 : Type := List Di × Int
def cmp_Or_int_S1 (v : cmp_Or_int_Y1) : St := ⟨[(0, .fz Ri v.1), (3, .int .i64 v.2)], []⟩
def cmp_Or_int_r1 (C : cmp_Or_int_C) (v : cmp_Or_int_Y0i) : Dt cmp_Or_int_Y1 := (Dt.ret (v, (0:Int)))
theorem cmp_Or_int_g1 (C : cmp_Or_int_C) (v : cmp_Or_int_Y0i) : treg tysT (orc (cmp_Or_int_tab C)) 18 (regO (bodyOf f58) 1) false [(0, (.val Ri)), (3, .any)] (cmp_Or_int_S0i v) some = (cmp_Or_int_r1 C v).eval fun y => some (cmp_Or_int_S1 y) := by kernel_rfl
abbrev cmp_Or_int_Y2 : Type := Int × List Di × Int × Int
def cmp_Or_int_S2 (v : cmp_Or_int_Y2) : St := ⟨[(3, .int .i64 v.1), (6, .fz Ri v.2.1), (7, .int .i64 v.2.2.1), (8, .int .i64 v.2.2.2)], []⟩
def cmp_Or_int_r2 (C : cmp_Or_int_C) (v : cmp_Or_int_Y1) : Dt cmp_Or_int_Y2 := (Dt.ret (v.2, v.1, (List.length v.1 : Int), (0:Int)))
theorem cmp_Or_int_g2 (C : cmp_Or_int_C) (v : cmp_Or_int_Y1) : treg tysT (orc (cmp_Or_int_tab C)) 18 (regO (bodyOf f58) 2) false [(3, .any), (6, (.val Ri)), (7, .any), (8, .any)] (cmp_Or_int_S1 v) some = (cmp_Or_int_r2 C v).eval fun y => some (cmp_Or_int_S2 y) := by kernel_rfl
abbrev cmp_Or_int_Y3 : Type := Int × List Di × Int × Int × Bool
def cmp_Or_int_S3 (v : cmp_Or_int_Y3) : St := ⟨[(3, .int .i64 v.1), (6, .fz Ri v.2.1), (7, .int .i64 v.2.2.1), (8, .int .i64 v.2.2.2.1), (9, .bool v.2.2.2.2)], []⟩
def cmp_Or_int_r3 (C : cmp_Or_int_C) (v : cmp_Or_int_Y2) : Dt cmp_Or_int_Y3 := (Dt.ret (v.1, v.2.1, v.2.2.1, v.2.2.2, (decide (v.2.2.2 < v.2.2.1))))
theorem cmp_Or_int_g3 (C : cmp_Or_int_C) (v : cmp_Or_int_Y2) : treg tysT (orc (cmp_Or_int_tab C)) 18 (regO (bodyOf f58) 3) false [(3, .any), (6, (.val Ri)), (7, .any), (8, .any), (9, .any)] (cmp_Or_int_S2 v) some = (cmp_Or_int_r3 C v).eval fun y => some (cmp_Or_int_S3 y) := by kernel_rfl
abbrev cmp_Or_int_Y4 : Type := Int × Int × List Di × Int × Int
def cmp_Or_int_S4 (v : cmp_Or_int_Y4) : St := ⟨[(3, .int .i64 v.1), (5, .int .i64 v.2.1), (6, .fz Ri v.2.2.1), (7, .int .i64 v.2.2.2.1), (8, .int .i64 v.2.2.2.2)], []⟩
def cmp_Or_int_r4 (C : cmp_Or_int_C) (v : cmp_Or_int_Y3) : Dt cmp_Or_int_Y4 := (Dt.ite (inB v.2.2.2.1 (List.length v.2.1)) (Dt.ret (v.1, (elt zi v.2.1 (v.2.2.2.1).toNat).1, v.2.1, v.2.2.1, v.2.2.2.1)) Dt.fail)
theorem cmp_Or_int_g4 (C : cmp_Or_int_C) (v : cmp_Or_int_Y3) : treg tysT (orc (cmp_Or_int_tab C)) 18 (regO (bodyOf f58) 4) false [(3, .any), (5, .any), (6, (.val Ri)), (7, .any), (8, .any)] (cmp_Or_int_S3 v) some = (cmp_Or_int_r4 C v).eval fun y => some (cmp_Or_int_S4 y) := by kernel_rfl
abbrev cmp_Or_int_Y5 : Type := Int × Int × List Di × Int × Int × Bool
def cmp_Or_int_S5 (v : cmp_Or_int_Y5) : St := ⟨[(3, .int .i64 v.1), (5, .int .i64 v.2.1), (6, .fz Ri v.2.2.1), (7, .int .i64 v.2.2.2.1), (8, .int .i64 v.2.2.2.2.1), (14, .bool v.2.2.2.2.2)], []⟩
def cmp_Or_int_r5 (C : cmp_Or_int_C) (v : cmp_Or_int_Y4) : Dt cmp_Or_int_Y5 := (Dt.ret (v.1, v.2.1, v.2.2.1, v.2.2.2.1, v.2.2.2.2, (v.2.1 != v.1)))
theorem cmp_Or_int_g5 (C : cmp_Or_int_C) (v : cmp_Or_int_Y4) : treg tysT (orc (cmp_Or_int_tab C)) 18 (regO (bodyOf f58) 5) false [(3, .any), (5, .any), (6, (.val Ri)), (7, .any), (8, .any), (14, .any)] (cmp_Or_int_S4 v) some = (cmp_Or_int_r5 C v).eval fun y => some (cmp_Or_int_S5 y) := by kernel_rfl
abbrev cmp_Or_int_Y6 : Type := Int
def cmp_Or_int_S6 (v : cmp_Or_int_Y6) : St := ⟨[(2, .int .i64 v)], []⟩
def cmp_Or_int_r6 (C : cmp_Or_int_C) (v : cmp_Or_int_Y5) : Dt cmp_Or_int_Y6 := (Dt.ret v.2.1)
theorem cmp_Or_int_g6 (C : cmp_Or_int_C) (v : cmp_Or_int_Y5) : treg tysT (orc (cmp_Or_int_tab C)) 18 (regO (bodyOf f58) 6) false [(2, .any)] (cmp_Or_int_S5 v) some = (cmp_Or_int_r6 C v).eval fun y => some (cmp_Or_int_S6 y) := by kernel_rfl
def cmp_Or_int_r7 (C : cmp_Or_int_C) (v : cmp_Or_int_Y5) : Dt cmp_Or_int_Y2 := (Dt.ret (v.1, v.2.2.1, v.2.2.2.1, (IntKind.wrap .i64 (v.2.2.2.2.1 + (1:Int)))))
theorem cmp_Or_int_g7 (C : cmp_Or_int_C) (v : cmp_Or_int_Y5) : treg tysT (orc (cmp_Or_int_tab C)) 18 (regO (bodyOf f58) 7) false [(3, .any), (6, (.val Ri)), (7, .any), (8, .any)] (cmp_Or_int_S5 v) some = (cmp_Or_int_r7 C v).eval fun y => some (cmp_Or_int_S2 y) := by kernel_rfl
def cmp_Or_int_r8 (C : cmp_Or_int_C) (v : cmp_Or_int_Y3) : Dt cmp_Or_int_Y6 := (Dt.ret v.1)
theorem cmp_Or_int_g8 (C : cmp_Or_int_C) (v : cmp_Or_int_Y3) : treg tysT (orc (cmp_Or_int_tab C)) 18 (regO (bodyOf f58) 8) false [(2, .any)] (cmp_Or_int_S3 v) some = (cmp_Or_int_r8 C v).eval fun y => some (cmp_Or_int_S6 y) := by kernel_rfl
def cmp_Or_int_L1 (d : Nat) (self1 : (Int × List Di × Int × Int) → Option cmp_Or_int_R) (x1 : Int × List Di × Int × Int) : Option cmp_Or_int_R :=
  (cmp_Or_int_r3 (cmp_Or_int_K d) x1).eval fun y3 =>
  bif y3.2.2.2.2 then ((cmp_Or_int_r4 (cmp_Or_int_K d) y3).eval fun y4 =>
  (cmp_Or_int_r5 (cmp_Or_int_K d) y4).eval fun y5 =>
  bif y5.2.2.2.2.2 then ((cmp_Or_int_r6 (cmp_Or_int_K d) y5).eval fun y6 =>
  some y6) else ((cmp_Or_int_r7 (cmp_Or_int_K d) y5).eval fun y7 =>
  self1 y7)) else ((cmp_Or_int_r8 (cmp_Or_int_K d) y3).eval fun y8 =>
  some y8)
def F_cmp_Or_int (d : Nat) (x : cmp_Or_int_X) : Option cmp_Or_int_R :=
  (cmp_Or_int_r0 (cmp_Or_int_K d) x.1.1).eval fun y0 =>
  (cmp_Or_int_r1 (cmp_Or_int_K d) y0).eval fun y1 =>
  (cmp_Or_int_r2 (cmp_Or_int_K d) y1).eval fun y2 =>
  iter (cmp_Or_int_L1 d ) d y2
theorem cmp_Or_int_cok (d : Nat) : COK prog (cmp_Or_int_sp (F_cmp_Or_int d)) := by
  have hm : prog.follows .mixedOrders = true := mixed
  have hT := tys
  have hC0 : OrcOK prog (orc (cmp_Or_int_tab (cmp_Or_int_K d))) := orc_ok (by
    intro S hS
    simp only [cmp_Or_int_tab, List.mem_cons, List.not_mem_nil, or_false] at hS
    all_goals first | cases hS | exact hS.elim)
  have hC : OrcOK prog (orc (cmp_Or_int_tab (cmp_Or_int_K d))) := hC0
  refine cok_of (c := bodyOf f58) (fn := f58) hT (by kernel_rfl) (by kernel_rfl) (by decide) fun x r h w0 φ0 Q hend => ?_
  replace h : F_cmp_Or_int d x = some r := h
  unfold F_cmp_Or_int at h
  show Run prog w0 φ0 18 (bodyOf f58) ⟨[(0, .fz Ri x.1.1)], []⟩ Q
  refine run_seq ?_
  refine run_reg hm hT hC (cmp_Or_int_g0 (cmp_Or_int_K d) x.1.1) h ?_
  intro y0 h
  refine cn_then ?_
  refine run_seq ?_
  refine run_reg hm hT hC (cmp_Or_int_g1 (cmp_Or_int_K d) y0) h ?_
  intro y1 h
  refine cn_then ?_
  refine run_seq ?_
  refine run_seq ?_
  refine run_reg hm hT hC (cmp_Or_int_g2 (cmp_Or_int_K d) y1) h ?_
  intro y2 h
  refine cn_then ?_
  refine run_block ?_
  refine run_loop (G := iter (cmp_Or_int_L1 d )) (S := (fun x1 => ⟨[(3, .int .i64 x1.1), (6, .fz Ri x1.2.1), (7, .int .i64 x1.2.2.1), (8, .int .i64 x1.2.2.2)], []⟩ : Int × List Di × Int × Int → St)) (fun _ => rfl) ?_ d _ h
  intro n1 x1 h K1 hn1
  replace h : cmp_Or_int_L1 d  (iter (cmp_Or_int_L1 d ) n1) x1 = some r := h
  generalize iter (cmp_Or_int_L1 d ) n1 = self1 at h hn1
  unfold cmp_Or_int_L1 at h
  refine run_seq ?_
  refine run_reg hm hT hC (cmp_Or_int_g3 (cmp_Or_int_K d) x1) h ?_
  intro y3 h
  refine cn_then ?_
  refine run_seq ?_
  refine run_cond (v := y3.2.2.2.2) (by kernel_rfl) h ?_ ?_
  ·
    intro h
    refine run_skip ?_
    refine cn_then ?_
    refine run_seq ?_
    refine run_block ?_
    refine run_seq ?_
    refine run_reg hm hT hC (cmp_Or_int_g4 (cmp_Or_int_K d) y3) h ?_
    intro y4 h
    refine cn_then ?_
    refine run_seq ?_
    refine run_reg hm hT hC (cmp_Or_int_g5 (cmp_Or_int_K d) y4) h ?_
    intro y5 h
    refine cn_then ?_
    refine run_cond (v := y5.2.2.2.2.2) (by kernel_rfl) h ?_ ?_
    ·
      intro h
      refine run_seq ?_
      refine run_reg hm hT hC (cmp_Or_int_g6 (cmp_Or_int_K d) y5) h ?_
      intro y6 h
      refine cn_then ?_
      refine run_ret ?_
      refine cn_blk_ret ?_
      refine cn_then_ret ?_
      refine cn_then_ret ?_
      refine cn_blk_ret ?_
      refine cn_then_ret ?_
      cases h
      exact (hend _ (by kernel_rfl)).2
    ·
      intro h
      refine run_skip ?_
      refine cn_blk ?_
      refine cn_then ?_
      refine run_reg hm hT hC (cmp_Or_int_g7 (cmp_Or_int_K d) y5) h ?_
      intro y7 h
      exact hn1 _ h
  ·
    intro h
    refine run_exit ?_
    refine cn_then_exit ?_
    refine cn_then_exit ?_
    refine cn_blk_eq ?_
    refine cn_then ?_
    refine run_seq ?_
    refine run_reg hm hT hC (cmp_Or_int_g8 (cmp_Or_int_K d) y3) h ?_
    intro y8 h
    refine cn_then ?_
    refine run_ret ?_
    cases h
    exact (hend _ (by kernel_rfl)).2
abbrev meet_order_ps : List Pk := [.row Riiii true, .row Riiii true]
abbrev meet_order_X : Type := Diiii × Diiii × Unit
abbrev meet_order_R : Type := Int
def meet_order_enc (r : meet_order_R) : LV × List Ob := (.int .i64 r, [])
def meet_order_sp (F : meet_order_X → Option meet_order_R) : Go.Tx.Spec := ⟨39, meet_order_ps, meet_order_R, F, meet_order_enc⟩
abbrev meet_order_C : Type := (meet_later_X → Option meet_later_R) × (cmp_Or_int_X → Option cmp_Or_int_R) × (cmp_Compare_int_X → Option cmp_Compare_int_R) × Unit
def meet_order_K (d : Nat) : meet_order_C := (F_meet_later d, F_cmp_Or_int d, F_cmp_Compare_int d, ())
def meet_order_tab (C : meet_order_C) : List Go.Tx.Spec := [meet_later_sp C.1, cmp_Or_int_sp C.2.1, cmp_Compare_int_sp C.2.2.1]
abbrev meet_order_Y0i : Type := Int × Int × Int × Int × Int × Int × Int × Int
def meet_order_S0i (v : meet_order_Y0i) : St := ⟨[(0, .agg [.int .i64 v.1, .int .i64 v.2.1, .int .i64 v.2.2.1, .int .i64 v.2.2.2.1]), (1, .agg [.int .i64 v.2.2.2.2.1, .int .i64 v.2.2.2.2.2.1, .int .i64 v.2.2.2.2.2.2.1, .int .i64 v.2.2.2.2.2.2.2])], []⟩
abbrev meet_order_Y0 : Type := Int × Int × Int × Int × Int × Int × Int × Int
def meet_order_S0 (v : meet_order_Y0) : St := ⟨[(2, .ptr 0 0), (3, .ptr 1 0)], [.cells [.int .i64 v.1, .int .i64 v.2.1, .int .i64 v.2.2.1, .int .i64 v.2.2.2.1], .cells [.int .i64 v.2.2.2.2.1, .int .i64 v.2.2.2.2.2.1, .int .i64 v.2.2.2.2.2.2.1, .int .i64 v.2.2.2.2.2.2.2]]⟩
def meet_order_r0 (C : meet_order_C) (v : meet_order_Y0i) : Dt meet_order_Y0 := (Dt.ret (v.1, v.2.1, v.2.2.1, v.2.2.2.1, v.2.2.2.2.1, v.2.2.2.2.2.1, v.2.2.2.2.2.2.1, v.2.2.2.2.2.2.2))
theorem meet_order_g0 (C : meet_order_C) (v : meet_order_Y0i) : treg tysT (orc (meet_order_tab C)) 22 (regO (bodyOf f39) 0) false [(2, .any), (3, .any)] (meet_order_S0i v) some = (meet_order_r0 C v).eval fun y => some (meet_order_S0 y) := by kernel_rfl
abbrev meet_order_Y1 : Type := Int
def meet_order_S1 (v : meet_order_Y1) : St := ⟨[(4, .int .i64 v)], []⟩
def meet_order_r1 (C : meet_order_C) (v : meet_order_Y0) : Dt meet_order_Y1 := (Dt.bnd (C.1 ((v.1, v.2.1, ()), (v.2.2.2.2.1, v.2.2.2.2.2.1, ()), ())) fun r1 => (Dt.bnd (C.2.2.1 ((v.2.2.1, ()), (v.2.2.2.2.2.2.1, ()), ())) fun r2 => (Dt.bnd (C.2.2.1 ((v.2.2.2.1, ()), (v.2.2.2.2.2.2.2, ()), ())) fun r3 => (Dt.bnd (C.2.1 ((([(r1, ()), (r2, ()), (r3, ())] : List Di), ()), ())) fun r4 => (Dt.ret r4)))))
theorem meet_order_g1 (C : meet_order_C) (v : meet_order_Y0) : treg tysT (orc (meet_order_tab C)) 22 (regO (bodyOf f39) 1) true [(4, .any)] (meet_order_S0 v) some = (meet_order_r1 C v).eval fun y => some (meet_order_S1 y) := by kernel_rfl
def F_meet_order (d : Nat) (x : meet_order_X) : Option meet_order_R :=
  (meet_order_r0 (meet_order_K d) (x.1.1, x.1.2.1, x.1.2.2.1, x.1.2.2.2.1, x.2.1.1, x.2.1.2.1, x.2.1.2.2.1, x.2.1.2.2.2.1)).eval fun y0 =>
  (meet_order_r1 (meet_order_K d) y0).eval fun y1 =>
  some y1
theorem meet_order_cok (d : Nat) : COK prog (meet_order_sp (F_meet_order d)) := by
  have hm : prog.follows .mixedOrders = true := mixed
  have hT := tys
  have hC0 : OrcOK prog (orc (meet_order_tab (meet_order_K d))) := orc_ok (by
    intro S hS
    simp only [meet_order_tab, List.mem_cons, List.not_mem_nil, or_false] at hS
    rcases hS with rfl | rfl | rfl
    · exact meet_later_cok d
    · exact cmp_Or_int_cok d
    · exact cmp_Compare_int_cok d)
  have hC : OrcOK prog (orc (meet_order_tab (meet_order_K d))) := hC0
  refine cok_of (c := bodyOf f39) (fn := f39) hT (by kernel_rfl) (by kernel_rfl) (by decide) fun x r h w0 φ0 Q hend => ?_
  replace h : F_meet_order d x = some r := h
  unfold F_meet_order at h
  show Run prog w0 φ0 22 (bodyOf f39) ⟨[(0, .agg [.int .i64 x.1.1, .int .i64 x.1.2.1, .int .i64 x.1.2.2.1, .int .i64 x.1.2.2.2.1]), (1, .agg [.int .i64 x.2.1.1, .int .i64 x.2.1.2.1, .int .i64 x.2.1.2.2.1, .int .i64 x.2.1.2.2.2.1])], []⟩ Q
  refine run_seq ?_
  refine run_reg hm hT hC (meet_order_g0 (meet_order_K d) (x.1.1, x.1.2.1, x.1.2.2.1, x.1.2.2.2.1, x.2.1.1, x.2.1.2.1, x.2.1.2.2.1, x.2.1.2.2.2.1)) h ?_
  intro y0 h
  refine cn_then ?_
  refine run_seq ?_
  refine run_reg hm hT hC (meet_order_g1 (meet_order_K d) y0) h ?_
  intro y1 h
  refine cn_then ?_
  refine run_ret ?_
  cases h
  exact (hend _ (by kernel_rfl)).2
end Go.Proofs.YthopjgahedijcaaGreat

namespace Go.Proofs.YthopjgahedijcaaGreat
open Go Go.Tx Go.Proofs.Tryz
set_option maxRecDepth 100000
set_option maxHeartbeats 0
abbrev meet_all_ps : List Pk := [.row RLiiiE true]
abbrev meet_all_X : Type := DLiiiE × Unit
abbrev meet_all_R : Type := List Diiii
def meet_all_enc (r : meet_all_R) : LV × List Ob := (.rs 0, [.rows Riiii r])
def meet_all_sp (F : meet_all_X → Option meet_all_R) : Go.Tx.Spec := ⟨21, meet_all_ps, meet_all_R, F, meet_all_enc⟩
abbrev meet_all_C : Type := (meet_pairs_X → Option meet_pairs_R) × (course_Meet_X → Option course_Meet_R) × (meet_order_X → Option meet_order_R) × Unit
def meet_all_K (d : Nat) : meet_all_C := (F_meet_pairs d, F_course_Meet d, F_meet_order d, ())
def meet_all_tab (C : meet_all_C) : List Go.Tx.Spec := [meet_pairs_sp C.1, course_Meet_sp C.2.1, meet_order_sp C.2.2.1]
abbrev meet_all_Y0i : Type := List Diii
def meet_all_S0i (v : meet_all_Y0i) : St := ⟨[(0, .agg [.fz Riii v])], []⟩
abbrev meet_all_Y0 : Type := List Diii
def meet_all_S0 (v : meet_all_Y0) : St := ⟨[(1, .ptr 0 0)], [.cells [.fz Riii v]]⟩
def meet_all_r0 (C : meet_all_C) (v : meet_all_Y0i) : Dt meet_all_Y0 := (Dt.ret v)
theorem meet_all_g0 (C : meet_all_C) (v : meet_all_Y0i) : treg tysT (orcS 38 39 Riiii C.2.2.1 (orc (meet_all_tab C))) 32 (regO (bodyOf f21) 0) false [(1, (.box [.val Riii]))] (meet_all_S0i v) some = (meet_all_r0 C v).eval fun y => some (meet_all_S0 y) := by kernel_rfl
abbrev meet_all_Y1 : Type := List Diii × List Diiii
def meet_all_S1 (v : meet_all_Y1) : St := ⟨[(1, .ptr 0 0), (3, .ptr 1 0)], [.cells [.fz Riii v.1], .cells [.rs 2], .rows Riiii v.2]⟩
def meet_all_r1 (C : meet_all_C) (v : meet_all_Y0) : Dt meet_all_Y1 := (Dt.ret (v, ([] : List Diiii)))
theorem meet_all_g1 (C : meet_all_C) (v : meet_all_Y0) : treg tysT (orcS 38 39 Riiii C.2.2.1 (orc (meet_all_tab C))) 32 (regO (bodyOf f21) 1) false [(1, (.box [.val Riii])), (3, (.box [.own Riiii]))] (meet_all_S0 v) some = (meet_all_r1 C v).eval fun y => some (meet_all_S1 y) := by kernel_rfl
abbrev meet_all_Y2 : Type := List Diiii × List Diii
def meet_all_S2 (v : meet_all_Y2) : St := ⟨[(3, .ptr 0 0), (9, .fn 53 [.ptr 2 0])], [.cells [.rs 1], .rows Riiii v.1, .cells [.fz Riii v.2]]⟩
def meet_all_r2 (C : meet_all_C) (v : meet_all_Y1) : Dt meet_all_Y2 := (Dt.bnd (C.1 ((v.1, ()), ())) fun r1 => (Dt.ret (v.2, r1)))
theorem meet_all_g2 (C : meet_all_C) (v : meet_all_Y1) : treg tysT (orcS 38 39 Riiii C.2.2.1 (orc (meet_all_tab C))) 32 (regO (bodyOf f21) 2) false [(3, (.box [.own Riiii])), (9, .any)] (meet_all_S1 v) some = (meet_all_r2 C v).eval fun y => some (meet_all_S2 y) := by kernel_rfl
abbrev meet_all_Y3i : Type := Int × Int × Int × Int × Int × Int × List Diiii
def meet_all_S3i (v : meet_all_Y3i) : St := ⟨[(10, .agg [.int .i64 v.1, .int .i64 v.2.1, .int .i64 v.2.2.1]), (11, .agg [.int .i64 v.2.2.2.1, .int .i64 v.2.2.2.2.1, .int .i64 v.2.2.2.2.2.1]), (3, .ptr 0 0)], [.cells [.rs 1], .rows Riiii v.2.2.2.2.2.2]⟩
abbrev meet_all_Y3 : Type := Int × Int × Int × List Diiii × Int × Int × Int
def meet_all_S3 (v : meet_all_Y3) : St := ⟨[(3, .ptr 0 0), (4, .ptr 2 0), (11, .agg [.int .i64 v.1, .int .i64 v.2.1, .int .i64 v.2.2.1])], [.cells [.rs 1], .rows Riiii v.2.2.2.1, .cells [.int .i64 v.2.2.2.2.1, .int .i64 v.2.2.2.2.2.1, .int .i64 v.2.2.2.2.2.2]]⟩
def meet_all_r3 (C : meet_all_C) (v : meet_all_Y3i) : Dt meet_all_Y3 := (Dt.ret (v.2.2.2.1, v.2.2.2.2.1, v.2.2.2.2.2.1, v.2.2.2.2.2.2, v.1, v.2.1, v.2.2.1))
theorem meet_all_g3 (C : meet_all_C) (v : meet_all_Y3i) : treg tysT (orcS 38 39 Riiii C.2.2.1 (orc (meet_all_tab C))) 32 (regO (bodyOf f21) 3) false [(3, (.box [.own Riiii])), (4, .any), (11, .any)] (meet_all_S3i v) some = (meet_all_r3 C v).eval fun y => some (meet_all_S3 y) := by kernel_rfl
abbrev meet_all_Y4 : Type := List Diiii × Int × Int × Int × Int × Int × Int
def meet_all_S4 (v : meet_all_Y4) : St := ⟨[(3, .ptr 0 0), (4, .ptr 2 0), (5, .ptr 3 0)], [.cells [.rs 1], .rows Riiii v.1, .cells [.int .i64 v.2.1, .int .i64 v.2.2.1, .int .i64 v.2.2.2.1], .cells [.int .i64 v.2.2.2.2.1, .int .i64 v.2.2.2.2.2.1, .int .i64 v.2.2.2.2.2.2]]⟩
def meet_all_r4 (C : meet_all_C) (v : meet_all_Y3) : Dt meet_all_Y4 := (Dt.ret (v.2.2.2.1, v.2.2.2.2.1, v.2.2.2.2.2.1, v.2.2.2.2.2.2, v.1, v.2.1, v.2.2.1))
theorem meet_all_g4 (C : meet_all_C) (v : meet_all_Y3) : treg tysT (orcS 38 39 Riiii C.2.2.1 (orc (meet_all_tab C))) 32 (regO (bodyOf f21) 4) false [(3, (.box [.own Riiii])), (4, .any), (5, .any)] (meet_all_S3 v) some = (meet_all_r4 C v).eval fun y => some (meet_all_S4 y) := by kernel_rfl
abbrev meet_all_Y5 : Type := Int × List Diiii × Int × Int × Int × Int × Int × Int × Int × Int
def meet_all_S5 (v : meet_all_Y5) : St := ⟨[(3, .ptr 0 0), (4, .ptr 2 0), (5, .ptr 3 0), (6, .ptr 4 0), (7, .int .i64 v.1)], [.cells [.rs 1], .rows Riiii v.2.1, .cells [.int .i64 v.2.2.1, .int .i64 v.2.2.2.1, .int .i64 v.2.2.2.2.1], .cells [.int .i64 v.2.2.2.2.2.1, .int .i64 v.2.2.2.2.2.2.1, .int .i64 v.2.2.2.2.2.2.2.1], .cells [.int .i64 v.2.2.2.2.2.2.2.2.1, .int .i64 v.2.2.2.2.2.2.2.2.2]]⟩
def meet_all_r5 (C : meet_all_C) (v : meet_all_Y4) : Dt meet_all_Y5 := (Dt.bnd (C.2.1 ((v.2.1, v.2.2.1, v.2.2.2.1, ()), (v.2.2.2.2.1, v.2.2.2.2.2.1, v.2.2.2.2.2.2, ()), ())) fun r1 => (Dt.ret (r1.2.2, v.1, v.2.1, v.2.2.1, v.2.2.2.1, v.2.2.2.2.1, v.2.2.2.2.2.1, v.2.2.2.2.2.2, r1.1, r1.2.1)))
theorem meet_all_g5 (C : meet_all_C) (v : meet_all_Y4) : treg tysT (orcS 38 39 Riiii C.2.2.1 (orc (meet_all_tab C))) 32 (regO (bodyOf f21) 5) false [(3, (.box [.own Riiii])), (4, .any), (5, .any), (6, .any), (7, .any)] (meet_all_S4 v) some = (meet_all_r5 C v).eval fun y => some (meet_all_S5 y) := by kernel_rfl
abbrev meet_all_Y6 : Type := Bool × List Diiii × Int × Int × Int × Int × Int × Int × Int × Int
def meet_all_S6 (v : meet_all_Y6) : St := ⟨[(3, .ptr 0 0), (4, .ptr 2 0), (5, .ptr 3 0), (6, .ptr 4 0), (19, .bool v.1)], [.cells [.rs 1], .rows Riiii v.2.1, .cells [.int .i64 v.2.2.1, .int .i64 v.2.2.2.1, .int .i64 v.2.2.2.2.1], .cells [.int .i64 v.2.2.2.2.2.1, .int .i64 v.2.2.2.2.2.2.1, .int .i64 v.2.2.2.2.2.2.2.1], .cells [.int .i64 v.2.2.2.2.2.2.2.2.1, .int .i64 v.2.2.2.2.2.2.2.2.2]]⟩
def meet_all_r6 (C : meet_all_C) (v : meet_all_Y5) : Dt meet_all_Y6 := (Dt.ret ((v.1 == (0:Int)), v.2.1, v.2.2.1, v.2.2.2.1, v.2.2.2.2.1, v.2.2.2.2.2.1, v.2.2.2.2.2.2.1, v.2.2.2.2.2.2.2.1, v.2.2.2.2.2.2.2.2.1, v.2.2.2.2.2.2.2.2.2))
theorem meet_all_g6 (C : meet_all_C) (v : meet_all_Y5) : treg tysT (orcS 38 39 Riiii C.2.2.1 (orc (meet_all_tab C))) 32 (regO (bodyOf f21) 6) false [(3, (.box [.own Riiii])), (4, .any), (5, .any), (6, .any), (19, .any)] (meet_all_S5 v) some = (meet_all_r6 C v).eval fun y => some (meet_all_S6 y) := by kernel_rfl
abbrev meet_all_Y7 : Type := List Diiii
def meet_all_S7 (v : meet_all_Y7) : St := ⟨[(3, .ptr 0 0)], [.cells [.rs 1], .rows Riiii v]⟩
def meet_all_r7 (C : meet_all_C) (v : meet_all_Y6) : Dt meet_all_Y7 := (Dt.ite (apB (List.length v.2.1) (List.length ([(v.2.2.2.2.2.2.2.2.1, v.2.2.2.2.2.2.2.2.2, v.2.2.1, v.2.2.2.2.2.1, ())] : List Diiii))) (Dt.ret (v.2.1 ++ ([(v.2.2.2.2.2.2.2.2.1, v.2.2.2.2.2.2.2.2.2, v.2.2.1, v.2.2.2.2.2.1, ())] : List Diiii))) Dt.fail)
theorem meet_all_g7 (C : meet_all_C) (v : meet_all_Y6) : treg tysT (orcS 38 39 Riiii C.2.2.1 (orc (meet_all_tab C))) 32 (regO (bodyOf f21) 7) false [(3, (.box [.own Riiii]))] (meet_all_S6 v) some = (meet_all_r7 C v).eval fun y => some (meet_all_S7 y) := by kernel_rfl
def meet_all_A1 (d : Nat) (x : Diii × Diii) (y : List Diiii) : Option (List Diiii × Int × Int × Int × Int × Int × Int) :=
  (meet_all_r3 (meet_all_K d) (x.1.1, x.1.2.1, x.1.2.2.1, x.2.1, x.2.2.1, x.2.2.2.1, y)).eval fun y3 =>
  (meet_all_r4 (meet_all_K d) y3).eval fun y4 =>
  some y4
def meet_all_B1 (d : Nat) (w : List Diiii × Int × Int × Int × Int × Int × Int) : Option (List Diiii) :=
  (meet_all_r5 (meet_all_K d) w).eval fun y5 =>
  (meet_all_r6 (meet_all_K d) y5).eval fun y6 =>
  bif y6.1 then ((meet_all_r7 (meet_all_K d) y6).eval fun y7 =>
  some y7) else (some y6.2.1)
def meet_all_r8 (C : meet_all_C) (v : meet_all_Y7) : Dt meet_all_Y7 := (Dt.bnd (sortV (τ := Riiii) C.2.2.1 v) fun r1 => (Dt.ret r1))
theorem meet_all_g8 (C : meet_all_C) (v : meet_all_Y7) : treg tysT (orcS 38 39 Riiii C.2.2.1 (orc (meet_all_tab C))) 32 (regO (bodyOf f21) 8) false [(3, (.box [.own Riiii]))] (meet_all_S7 v) some = (meet_all_r8 C v).eval fun y => some (meet_all_S7 y) := by kernel_rfl
abbrev meet_all_Y9 : Type := List Diiii
def meet_all_S9 (v : meet_all_Y9) : St := ⟨[(2, .rs 0)], [.rows Riiii v]⟩
def meet_all_r9 (C : meet_all_C) (v : meet_all_Y7) : Dt meet_all_Y9 := (Dt.ret v)
theorem meet_all_g9 (C : meet_all_C) (v : meet_all_Y7) : treg tysT (orcS 38 39 Riiii C.2.2.1 (orc (meet_all_tab C))) 32 (regO (bodyOf f21) 9) false [(2, (.own Riiii))] (meet_all_S7 v) some = (meet_all_r9 C v).eval fun y => some (meet_all_S9 y) := by kernel_rfl
def F_meet_all (d : Nat) (x : meet_all_X) : Option meet_all_R :=
  (meet_all_r0 (meet_all_K d) x.1.1).eval fun y0 =>
  (meet_all_r1 (meet_all_K d) y0).eval fun y1 =>
  (meet_all_r2 (meet_all_K d) y1).eval fun y2 =>
  bif pairsB y2.2 then Option.bind (loopF (step2 (meet_all_A1 d) (meet_all_B1 d)) (pairsL y2.2) y2.1) fun z1 =>
  ((meet_all_r8 (meet_all_K d) z1).eval fun y8 =>
  (meet_all_r9 (meet_all_K d) y8).eval fun y9 =>
  some y9) else none
theorem meet_all_cok (d : Nat) : COK prog (meet_all_sp (F_meet_all d)) := by
  have hm : prog.follows .mixedOrders = true := mixed
  have hT := tys
  have hC0 : OrcOK prog (orc (meet_all_tab (meet_all_K d))) := orc_ok (by
    intro S hS
    simp only [meet_all_tab, List.mem_cons, List.not_mem_nil, or_false] at hS
    rcases hS with rfl | rfl | rfl
    · exact meet_pairs_cok d
    · exact course_Meet_cok d
    · exact meet_order_cok d)
  have hC : OrcOK prog (orcS 38 39 Riiii (meet_all_K d).2.2.1 (orc (meet_all_tab (meet_all_K d)))) := (sort_api_Meeting_ok (meet_order_cok d) hC0)
  refine cok_marks (c := bodyOf f21) (fn := f21) hT (by kernel_rfl) (by kernel_rfl) (by decide) fun x r h w0 φ0 Q hend => ?_
  replace h : F_meet_all d x = some r := h
  unfold F_meet_all at h
  show Run prog w0 φ0 32 (bodyOf f21) ⟨[(0, .agg [.fz Riii x.1.1])], []⟩ Q
  refine run_seq ?_
  refine run_reg hm hT hC (meet_all_g0 (meet_all_K d) x.1.1) h ?_
  intro y0 h
  refine cn_then ?_
  refine run_seq ?_
  refine run_reg hm hT hC (meet_all_g1 (meet_all_K d) y0) h ?_
  intro y1 h
  refine cn_then ?_
  refine run_seq ?_
  refine run_seq ?_
  refine run_reg hm hT hC (meet_all_g2 (meet_all_K d) y1) h ?_
  intro y2 h
  refine cn_then ?_
  refine run_block ?_
  obtain ⟨hg1, h⟩ := bif_none h
  obtain ⟨z1, hz1, h⟩ := Option.bind_eq_some_iff.1 h
  refine run_range (b0 := 2) (α := Diii × Diii) (X := List Diiii) (Z := List Diiii × Int × Int × Int × Int × Int × Int) (encs := fun x => #[.agg #[.int .i64 x.1.1, .int .i64 x.1.2.1, .int .i64 x.1.2.2.1], .agg #[.int .i64 x.2.1, .int .i64 x.2.2.1, .int .i64 x.2.2.2.1]]) (xs := (pairsL y2.2)) (A := meet_all_A1 d) (B := meet_all_B1 d) (S1 := fun w => ⟨[(3, .ptr 0 0), (4, .ptr 2 0), (5, .ptr 3 0)], [.cells [.rs 1], .rows Riiii w.1, .cells [.int .i64 w.2.1, .int .i64 w.2.2.1, .int .i64 w.2.2.2.1], .cells [.int .i64 w.2.2.2.2.1, .int .i64 w.2.2.2.2.2.1, .int .i64 w.2.2.2.2.2.2]]⟩) (x0 := y2.1) (z := z1) (tmE := fun y => [(3, .ptr 0 0)]) (keys := [3]) (obs := fun y => [.cells [.rs 1], .rows Riiii y]) (xp := fun x => [(10, .agg [.int .i64 x.1.1, .int .i64 x.1.2.1, .int .i64 x.1.2.2.1]), (11, .agg [.int .i64 x.2.1, .int .i64 x.2.2.1, .int .i64 x.2.2.2.1])]) (ks := [9]) (fun y n l h => keys_at (k := [3]) (tm := [(3, .ptr 0 0)]) rfl h) (by kernel_rfl) (by kernel_rfl) rfl (by kernel_rfl) (by kernel_rfl) (enters_of Tryz.func53 (by kernel_rfl) rfl) (pairs1_iter hg1) (fun _ => rfl) (fun x t hN => ?xp1) (fun l V φ2 Q2 x y y2 h hD hV hend => ?as1) (fun l V φ2 Q2 w y2 h hD hV hend => ?bd1) hz1 (fun φ1 hl1 => ?rs1)
  case xp1 =>
    rw [fold2]
    refine ⟨by simpa using hN, fun n l hn => ?_, fun n hn => ?_⟩
    ·
      simp only [List.mem_cons, List.not_mem_nil, or_false, Prod.mk.injEq] at hn
      rcases hn with ⟨rfl, rfl⟩ | ⟨rfl, rfl⟩
      ·
        exact ⟨_, (sib_ne rfl).trans (sib_self (by (try simp only [Array.size_setIfInBounds]); omega)), fun η => VR.aggL (VRs.cons (.int _ _) (VRs.cons (.int _ _) (VRs.cons (.int _ _) (VRs.nil))))⟩
      ·
        exact ⟨_, sib_self (by (try simp only [Array.size_setIfInBounds]); omega), fun η => VR.aggL (VRs.cons (.int _ _) (VRs.cons (.int _ _) (VRs.cons (.int _ _) (VRs.nil))))⟩
    ·
      simp only [List.mem_cons, List.not_mem_nil, or_false] at hn
      rcases hn with rfl
      all_goals exact (sib_ne rfl).trans ((sib_ne rfl))
  case as1 =>
    unfold meet_all_A1 at h
    show RunI l prog V w0 φ2 32 _ ⟨[(10, .agg [.int .i64 x.1.1, .int .i64 x.1.2.1, .int .i64 x.1.2.2.1]), (11, .agg [.int .i64 x.2.1, .int .i64 x.2.2.1, .int .i64 x.2.2.2.1]), (3, .ptr 0 0)], [.cells [.rs 1], .rows Riiii y]⟩ Q2
    refine runI_seq ?_
    refine runI_reg hm hT hC hV (by kernel_rfl) (by kernel_rfl) (meet_all_g3 (meet_all_K d) (x.1.1, x.1.2.1, x.1.2.2.1, x.2.1, x.2.2.1, x.2.2.2.1, y)) h ?_
    intro y3 h
    refine cnI_then ?_
    refine runI_reg hm hT hC hV (by kernel_rfl) (by kernel_rfl) (meet_all_g4 (meet_all_K d) y3) h ?_
    intro y4 h
    cases h
    exact hend
  case bd1 =>
    unfold meet_all_B1 at h
    show RunI l prog V w0 φ2 32 _ ⟨[(3, .ptr 0 0), (4, .ptr 2 0), (5, .ptr 3 0)], [.cells [.rs 1], .rows Riiii w.1, .cells [.int .i64 w.2.1, .int .i64 w.2.2.1, .int .i64 w.2.2.2.1], .cells [.int .i64 w.2.2.2.2.1, .int .i64 w.2.2.2.2.2.1, .int .i64 w.2.2.2.2.2.2]]⟩ Q2
    refine runI_block ?_
    refine runI_seq ?_
    refine runI_reg hm hT hC hV (by kernel_rfl) (by kernel_rfl) (meet_all_g5 (meet_all_K d) w) h ?_
    intro y5 h
    refine cnI_then ?_
    refine runI_seq ?_
    refine runI_reg hm hT hC hV (by kernel_rfl) (by kernel_rfl) (meet_all_g6 (meet_all_K d) y5) h ?_
    intro y6 h
    refine cnI_then ?_
    refine runI_cond (v := y6.1) (by kernel_rfl) h ?_ ?_
    ·
      intro h
      refine runI_reg hm hT hC hV (by kernel_rfl) (by kernel_rfl) (meet_all_g7 (meet_all_K d) y6) h ?_
      intro y7 h
      refine cnI_blk ?_
      cases h
      exact hend
    ·
      intro h
      refine runI_skip ?_
      refine cnI_blk ?_
      refine cnI_num (s := ⟨[(3, .ptr 0 0)], [.cells [.rs 1], .rows Riiii y6.2.1]⟩) [4, 5, 6, 19] (by kernel_rfl) ?_
      cases h
      exact hend
  case rs1 =>
    refine cn_blk ?_
    refine cn_then ?_
    refine run_seq ?_
    refine run_reg hm hT hC (meet_all_g8 (meet_all_K d) z1) h ?_
    intro y8 h
    refine cn_then ?_
    refine run_seq ?_
    refine run_reg hm hT hC (meet_all_g9 (meet_all_K d) y8) h ?_
    intro y9 h
    refine cn_then ?_
    refine run_ret ?_
    cases h
    exact (hend.2 _ hl1 _ (by kernel_rfl)).2
abbrev meet_behind_1_ps : List Pk := [.row Riiii true, .row Rii true]
abbrev meet_behind_1_X : Type := Diiii × Dii × Unit
abbrev meet_behind_1_R : Type := Int
def meet_behind_1_enc (r : meet_behind_1_R) : LV × List Ob := (.int .i64 r, [])
def meet_behind_1_sp (F : meet_behind_1_X → Option meet_behind_1_R) : Go.Tx.Spec := ⟨41, meet_behind_1_ps, meet_behind_1_R, F, meet_behind_1_enc⟩
abbrev meet_behind_1_C : Type := (meet_later_X → Option meet_later_R) × Unit
def meet_behind_1_K (d : Nat) : meet_behind_1_C := (F_meet_later d, ())
def meet_behind_1_tab (C : meet_behind_1_C) : List Go.Tx.Spec := [meet_later_sp C.1]
abbrev meet_behind_1_Y0i : Type := Int × Int × Int × Int × Int × Int
def meet_behind_1_S0i (v : meet_behind_1_Y0i) : St := ⟨[(0, .agg [.int .i64 v.1, .int .i64 v.2.1, .int .i64 v.2.2.1, .int .i64 v.2.2.2.1]), (1, .agg [.int .i64 v.2.2.2.2.1, .int .i64 v.2.2.2.2.2])], []⟩
abbrev meet_behind_1_Y0 : Type := Int × Int × Int × Int × Int × Int
def meet_behind_1_S0 (v : meet_behind_1_Y0) : St := ⟨[(2, .ptr 0 0), (3, .ptr 1 0)], [.cells [.int .i64 v.1, .int .i64 v.2.1, .int .i64 v.2.2.1, .int .i64 v.2.2.2.1], .cells [.int .i64 v.2.2.2.2.1, .int .i64 v.2.2.2.2.2]]⟩
def meet_behind_1_r0 (C : meet_behind_1_C) (v : meet_behind_1_Y0i) : Dt meet_behind_1_Y0 := (Dt.ret (v.1, v.2.1, v.2.2.1, v.2.2.2.1, v.2.2.2.2.1, v.2.2.2.2.2))
theorem meet_behind_1_g0 (C : meet_behind_1_C) (v : meet_behind_1_Y0i) : treg tysT (orc (meet_behind_1_tab C)) 10 (regO (bodyOf f41) 0) false [(2, .any), (3, .any)] (meet_behind_1_S0i v) some = (meet_behind_1_r0 C v).eval fun y => some (meet_behind_1_S0 y) := by kernel_rfl
abbrev meet_behind_1_Y1 : Type := Bool
def meet_behind_1_S1 (v : meet_behind_1_Y1) : St := ⟨[(9, .bool v)], []⟩
def meet_behind_1_r1 (C : meet_behind_1_C) (v : meet_behind_1_Y0) : Dt meet_behind_1_Y1 := (Dt.bnd (C.1 ((v.1, v.2.1, ()), (v.2.2.2.2.1, v.2.2.2.2.2, ()), ())) fun r1 => (Dt.ret (decide (r1 > (0:Int)))))
theorem meet_behind_1_g1 (C : meet_behind_1_C) (v : meet_behind_1_Y0) : treg tysT (orc (meet_behind_1_tab C)) 10 (regO (bodyOf f41) 1) false [(9, .any)] (meet_behind_1_S0 v) some = (meet_behind_1_r1 C v).eval fun y => some (meet_behind_1_S1 y) := by kernel_rfl
abbrev meet_behind_1_Y2 : Type := Int
def meet_behind_1_S2 (v : meet_behind_1_Y2) : St := ⟨[(4, .int .i64 v)], []⟩
def meet_behind_1_r2 (C : meet_behind_1_C) (v : meet_behind_1_Y1) : Dt meet_behind_1_Y2 := (Dt.ret (1:Int))
theorem meet_behind_1_g2 (C : meet_behind_1_C) (v : meet_behind_1_Y1) : treg tysT (orc (meet_behind_1_tab C)) 10 (regO (bodyOf f41) 2) false [(4, .any)] (meet_behind_1_S1 v) some = (meet_behind_1_r2 C v).eval fun y => some (meet_behind_1_S2 y) := by kernel_rfl
def meet_behind_1_r3 (C : meet_behind_1_C) (v : meet_behind_1_Y1) : Dt meet_behind_1_Y2 := (Dt.ret (-1:Int))
theorem meet_behind_1_g3 (C : meet_behind_1_C) (v : meet_behind_1_Y1) : treg tysT (orc (meet_behind_1_tab C)) 10 (regO (bodyOf f41) 3) false [(4, .any)] (meet_behind_1_S1 v) some = (meet_behind_1_r3 C v).eval fun y => some (meet_behind_1_S2 y) := by kernel_rfl
def F_meet_behind_1 (d : Nat) (x : meet_behind_1_X) : Option meet_behind_1_R :=
  (meet_behind_1_r0 (meet_behind_1_K d) (x.1.1, x.1.2.1, x.1.2.2.1, x.1.2.2.2.1, x.2.1.1, x.2.1.2.1)).eval fun y0 =>
  (meet_behind_1_r1 (meet_behind_1_K d) y0).eval fun y1 =>
  bif y1 then ((meet_behind_1_r2 (meet_behind_1_K d) y1).eval fun y2 =>
  some y2) else ((meet_behind_1_r3 (meet_behind_1_K d) y1).eval fun y3 =>
  some y3)
theorem meet_behind_1_cok (d : Nat) : COK prog (meet_behind_1_sp (F_meet_behind_1 d)) := by
  have hm : prog.follows .mixedOrders = true := mixed
  have hT := tys
  have hC0 : OrcOK prog (orc (meet_behind_1_tab (meet_behind_1_K d))) := orc_ok (by
    intro S hS
    simp only [meet_behind_1_tab, List.mem_cons, List.not_mem_nil, or_false] at hS
    subst hS; exact meet_later_cok d)
  have hC : OrcOK prog (orc (meet_behind_1_tab (meet_behind_1_K d))) := hC0
  refine cok_of (c := bodyOf f41) (fn := f41) hT (by kernel_rfl) (by kernel_rfl) (by decide) fun x r h w0 φ0 Q hend => ?_
  replace h : F_meet_behind_1 d x = some r := h
  unfold F_meet_behind_1 at h
  show Run prog w0 φ0 10 (bodyOf f41) ⟨[(0, .agg [.int .i64 x.1.1, .int .i64 x.1.2.1, .int .i64 x.1.2.2.1, .int .i64 x.1.2.2.2.1]), (1, .agg [.int .i64 x.2.1.1, .int .i64 x.2.1.2.1])], []⟩ Q
  refine run_seq ?_
  refine run_reg hm hT hC (meet_behind_1_g0 (meet_behind_1_K d) (x.1.1, x.1.2.1, x.1.2.2.1, x.1.2.2.2.1, x.2.1.1, x.2.1.2.1)) h ?_
  intro y0 h
  refine cn_then ?_
  refine run_seq ?_
  refine run_seq ?_
  refine run_reg hm hT hC (meet_behind_1_g1 (meet_behind_1_K d) y0) h ?_
  intro y1 h
  refine cn_then ?_
  refine run_cond (v := y1) (by kernel_rfl) h ?_ ?_
  ·
    intro h
    refine run_seq ?_
    refine run_reg hm hT hC (meet_behind_1_g2 (meet_behind_1_K d) y1) h ?_
    intro y2 h
    refine cn_then ?_
    refine run_ret ?_
    refine cn_then_ret ?_
    cases h
    exact (hend _ (by kernel_rfl)).2
  ·
    intro h
    refine run_skip ?_
    refine cn_then ?_
    refine run_seq ?_
    refine run_reg hm hT hC (meet_behind_1_g3 (meet_behind_1_K d) y1) h ?_
    intro y3 h
    refine cn_then ?_
    refine run_ret ?_
    cases h
    exact (hend _ (by kernel_rfl)).2
abbrev slices_BinarySearchFunc_api_Meeting_api_Meeting_api_Ratio_at_meet_behind_1_ps : List Pk := [.row RLiiiiE false, .row Rii true, .fn 41 []]
abbrev slices_BinarySearchFunc_api_Meeting_api_Meeting_api_Ratio_at_meet_behind_1_X : Type := DLiiiiE × Dii × (Unit) × Unit
abbrev slices_BinarySearchFunc_api_Meeting_api_Meeting_api_Ratio_at_meet_behind_1_R : Type := Int × Bool
def slices_BinarySearchFunc_api_Meeting_api_Meeting_api_Ratio_at_meet_behind_1_enc (r : slices_BinarySearchFunc_api_Meeting_api_Meeting_api_Ratio_at_meet_behind_1_R) : LV × List Ob := (.tup [.int .i64 r.1, .bool r.2], [])
def slices_BinarySearchFunc_api_Meeting_api_Meeting_api_Ratio_at_meet_behind_1_sp (F : slices_BinarySearchFunc_api_Meeting_api_Meeting_api_Ratio_at_meet_behind_1_X → Option slices_BinarySearchFunc_api_Meeting_api_Meeting_api_Ratio_at_meet_behind_1_R) : Go.Tx.Spec := ⟨40, slices_BinarySearchFunc_api_Meeting_api_Meeting_api_Ratio_at_meet_behind_1_ps, slices_BinarySearchFunc_api_Meeting_api_Meeting_api_Ratio_at_meet_behind_1_R, F, slices_BinarySearchFunc_api_Meeting_api_Meeting_api_Ratio_at_meet_behind_1_enc⟩
abbrev slices_BinarySearchFunc_api_Meeting_api_Meeting_api_Ratio_at_meet_behind_1_C : Type := (meet_behind_1_X → Option meet_behind_1_R) × Unit
def slices_BinarySearchFunc_api_Meeting_api_Meeting_api_Ratio_at_meet_behind_1_K (d : Nat) : slices_BinarySearchFunc_api_Meeting_api_Meeting_api_Ratio_at_meet_behind_1_C := (F_meet_behind_1 d, ())
def slices_BinarySearchFunc_api_Meeting_api_Meeting_api_Ratio_at_meet_behind_1_tab (C : slices_BinarySearchFunc_api_Meeting_api_Meeting_api_Ratio_at_meet_behind_1_C) : List Go.Tx.Spec := [meet_behind_1_sp C.1]
abbrev slices_BinarySearchFunc_api_Meeting_api_Meeting_api_Ratio_at_meet_behind_1_Y0i : Type := List Diiii × Int × Int
def slices_BinarySearchFunc_api_Meeting_api_Meeting_api_Ratio_at_meet_behind_1_S0i (v : slices_BinarySearchFunc_api_Meeting_api_Meeting_api_Ratio_at_meet_behind_1_Y0i) : St := ⟨[(0, .fz Riiii v.1), (1, .agg [.int .i64 v.2.1, .int .i64 v.2.2]), (2, .fn 41 [])], []⟩
abbrev slices_BinarySearchFunc_api_Meeting_api_Meeting_api_Ratio_at_meet_behind_1_Y0 : Type := List Diiii × Int × Int
def slices_BinarySearchFunc_api_Meeting_api_Meeting_api_Ratio_at_meet_behind_1_S0 (v : slices_BinarySearchFunc_api_Meeting_api_Meeting_api_Ratio_at_meet_behind_1_Y0) : St := ⟨[(0, .fz Riiii v.1), (2, .fn 41 []), (4, .ptr 0 0)], [.cells [.int .i64 v.2.1, .int .i64 v.2.2]]⟩
def slices_BinarySearchFunc_api_Meeting_api_Meeting_api_Ratio_at_meet_behind_1_r0 (C : slices_BinarySearchFunc_api_Meeting_api_Meeting_api_Ratio_at_meet_behind_1_C) (v : slices_BinarySearchFunc_api_Meeting_api_Meeting_api_Ratio_at_meet_behind_1_Y0i) : Dt slices_BinarySearchFunc_api_Meeting_api_Meeting_api_Ratio_at_meet_behind_1_Y0 := (Dt.ret (v.1, v.2.1, v.2.2))
theorem slices_BinarySearchFunc_api_Meeting_api_Meeting_api_Ratio_at_meet_behind_1_g0 (C : slices_BinarySearchFunc_api_Meeting_api_Meeting_api_Ratio_at_meet_behind_1_C) (v : slices_BinarySearchFunc_api_Meeting_api_Meeting_api_Ratio_at_meet_behind_1_Y0i) : treg tysT (orc (slices_BinarySearchFunc_api_Meeting_api_Meeting_api_Ratio_at_meet_behind_1_tab C)) 49 (regO (bodyOf f40) 0) false [(0, (.val Riiii)), (2, .any), (4, .any)] (slices_BinarySearchFunc_api_Meeting_api_Meeting_api_Ratio_at_meet_behind_1_S0i v) some = (slices_BinarySearchFunc_api_Meeting_api_Meeting_api_Ratio_at_meet_behind_1_r0 C v).eval fun y => some (slices_BinarySearchFunc_api_Meeting_api_Meeting_api_Ratio_at_meet_behind_1_S0 y) := by kernel_rfl
abbrev slices_BinarySearchFunc_api_Meeting_api_Meeting_api_Ratio_at_meet_behind_1_Y1 : Type := List Diiii × Int × Int × Int
def slices_BinarySearchFunc_api_Meeting_api_Meeting_api_Ratio_at_meet_behind_1_S1 (v : slices_BinarySearchFunc_api_Meeting_api_Meeting_api_Ratio_at_meet_behind_1_Y1) : St := ⟨[(0, .fz Riiii v.1), (2, .fn 41 []), (4, .ptr 0 0), (8, .int .i64 v.2.1)], [.cells [.int .i64 v.2.2.1, .int .i64 v.2.2.2]]⟩
def slices_BinarySearchFunc_api_Meeting_api_Meeting_api_Ratio_at_meet_behind_1_r1 (C : slices_BinarySearchFunc_api_Meeting_api_Meeting_api_Ratio_at_meet_behind_1_C) (v : slices_BinarySearchFunc_api_Meeting_api_Meeting_api_Ratio_at_meet_behind_1_Y0) : Dt slices_BinarySearchFunc_api_Meeting_api_Meeting_api_Ratio_at_meet_behind_1_Y1 := (Dt.ret (v.1, (List.length v.1 : Int), v.2.1, v.2.2))
theorem slices_BinarySearchFunc_api_Meeting_api_Meeting_api_Ratio_at_meet_behind_1_g1 (C : slices_BinarySearchFunc_api_Meeting_api_Meeting_api_Ratio_at_meet_behind_1_C) (v : slices_BinarySearchFunc_api_Meeting_api_Meeting_api_Ratio_at_meet_behind_1_Y0) : treg tysT (orc (slices_BinarySearchFunc_api_Meeting_api_Meeting_api_Ratio_at_meet_behind_1_tab C)) 49 (regO (bodyOf f40) 1) false [(0, (.val Riiii)), (2, .any), (4, .any), (8, .any)] (slices_BinarySearchFunc_api_Meeting_api_Meeting_api_Ratio_at_meet_behind_1_S0 v) some = (slices_BinarySearchFunc_api_Meeting_api_Meeting_api_Ratio_at_meet_behind_1_r1 C v).eval fun y => some (slices_BinarySearchFunc_api_Meeting_api_Meeting_api_Ratio_at_meet_behind_1_S1 y) := by kernel_rfl
abbrev slices_BinarySearchFunc_api_Meeting_api_Meeting_api_Ratio_at_meet_behind_1_Y2 : Type := List Diiii × Int × Int × Int × Int × Int
def slices_BinarySearchFunc_api_Meeting_api_Meeting_api_Ratio_at_meet_behind_1_S2 (v : slices_BinarySearchFunc_api_Meeting_api_Meeting_api_Ratio_at_meet_behind_1_Y2) : St := ⟨[(0, .fz Riiii v.1), (2, .fn 41 []), (4, .ptr 0 0), (8, .int .i64 v.2.1), (9, .int .i64 v.2.2.1), (10, .int .i64 v.2.2.2.1)], [.cells [.int .i64 v.2.2.2.2.1, .int .i64 v.2.2.2.2.2]]⟩
def slices_BinarySearchFunc_api_Meeting_api_Meeting_api_Ratio_at_meet_behind_1_r2 (C : slices_BinarySearchFunc_api_Meeting_api_Meeting_api_Ratio_at_meet_behind_1_C) (v : slices_BinarySearchFunc_api_Meeting_api_Meeting_api_Ratio_at_meet_behind_1_Y1) : Dt slices_BinarySearchFunc_api_Meeting_api_Meeting_api_Ratio_at_meet_behind_1_Y2 := (Dt.ret (v.1, v.2.1, (0:Int), v.2.1, v.2.2.1, v.2.2.2))
theorem slices_BinarySearchFunc_api_Meeting_api_Meeting_api_Ratio_at_meet_behind_1_g2 (C : slices_BinarySearchFunc_api_Meeting_api_Meeting_api_Ratio_at_meet_behind_1_C) (v : slices_BinarySearchFunc_api_Meeting_api_Meeting_api_Ratio_at_meet_behind_1_Y1) : treg tysT (orc (slices_BinarySearchFunc_api_Meeting_api_Meeting_api_Ratio_at_meet_behind_1_tab C)) 49 (regO (bodyOf f40) 2) false [(0, (.val Riiii)), (2, .any), (4, .any), (8, .any), (9, .any), (10, .any)] (slices_BinarySearchFunc_api_Meeting_api_Meeting_api_Ratio_at_meet_behind_1_S1 v) some = (slices_BinarySearchFunc_api_Meeting_api_Meeting_api_Ratio_at_meet_behind_1_r2 C v).eval fun y => some (slices_BinarySearchFunc_api_Meeting_api_Meeting_api_Ratio_at_meet_behind_1_S2 y) := by kernel_rfl
abbrev slices_BinarySearchFunc_api_Meeting_api_Meeting_api_Ratio_at_meet_behind_1_Y3 : Type := List Diiii × Int × Int × Int × Bool × Int × Int
def slices_BinarySearchFunc_api_Meeting_api_Meeting_api_Ratio_at_meet_behind_1_S3 (v : slices_BinarySearchFunc_api_Meeting_api_Meeting_api_Ratio_at_meet_behind_1_Y3) : St := ⟨[(0, .fz Riiii v.1), (2, .fn 41 []), (4, .ptr 0 0), (8, .int .i64 v.2.1), (9, .int .i64 v.2.2.1), (10, .int .i64 v.2.2.2.1), (17, .bool v.2.2.2.2.1)], [.cells [.int .i64 v.2.2.2.2.2.1, .int .i64 v.2.2.2.2.2.2]]⟩
def slices_BinarySearchFunc_api_Meeting_api_Meeting_api_Ratio_at_meet_behind_1_r3 (C : slices_BinarySearchFunc_api_Meeting_api_Meeting_api_Ratio_at_meet_behind_1_C) (v : slices_BinarySearchFunc_api_Meeting_api_Meeting_api_Ratio_at_meet_behind_1_Y2) : Dt slices_BinarySearchFunc_api_Meeting_api_Meeting_api_Ratio_at_meet_behind_1_Y3 := (Dt.ret (v.1, v.2.1, v.2.2.1, v.2.2.2.1, (decide (v.2.2.1 < v.2.2.2.1)), v.2.2.2.2.1, v.2.2.2.2.2))
theorem slices_BinarySearchFunc_api_Meeting_api_Meeting_api_Ratio_at_meet_behind_1_g3 (C : slices_BinarySearchFunc_api_Meeting_api_Meeting_api_Ratio_at_meet_behind_1_C) (v : slices_BinarySearchFunc_api_Meeting_api_Meeting_api_Ratio_at_meet_behind_1_Y2) : treg tysT (orc (slices_BinarySearchFunc_api_Meeting_api_Meeting_api_Ratio_at_meet_behind_1_tab C)) 49 (regO (bodyOf f40) 3) false [(0, (.val Riiii)), (2, .any), (4, .any), (8, .any), (9, .any), (10, .any), (17, .any)] (slices_BinarySearchFunc_api_Meeting_api_Meeting_api_Ratio_at_meet_behind_1_S2 v) some = (slices_BinarySearchFunc_api_Meeting_api_Meeting_api_Ratio_at_meet_behind_1_r3 C v).eval fun y => some (slices_BinarySearchFunc_api_Meeting_api_Meeting_api_Ratio_at_meet_behind_1_S3 y) := by kernel_rfl
abbrev slices_BinarySearchFunc_api_Meeting_api_Meeting_api_Ratio_at_meet_behind_1_Y4 : Type := List Diiii × Int × Int × Int × Int × Int × Int
def slices_BinarySearchFunc_api_Meeting_api_Meeting_api_Ratio_at_meet_behind_1_S4 (v : slices_BinarySearchFunc_api_Meeting_api_Meeting_api_Ratio_at_meet_behind_1_Y4) : St := ⟨[(0, .fz Riiii v.1), (2, .fn 41 []), (4, .ptr 0 0), (8, .int .i64 v.2.1), (9, .int .i64 v.2.2.1), (10, .int .i64 v.2.2.2.1), (11, .int .i64 v.2.2.2.2.1)], [.cells [.int .i64 v.2.2.2.2.2.1, .int .i64 v.2.2.2.2.2.2]]⟩
def slices_BinarySearchFunc_api_Meeting_api_Meeting_api_Ratio_at_meet_behind_1_r4 (C : slices_BinarySearchFunc_api_Meeting_api_Meeting_api_Ratio_at_meet_behind_1_C) (v : slices_BinarySearchFunc_api_Meeting_api_Meeting_api_Ratio_at_meet_behind_1_Y3) : Dt slices_BinarySearchFunc_api_Meeting_api_Meeting_api_Ratio_at_meet_behind_1_Y4 := (Dt.ret (v.1, v.2.1, v.2.2.1, v.2.2.2.1, (IntKind.wrap .i64 (shrI .u64 (IntKind.wrap .u64 (IntKind.wrap .i64 (v.2.2.1 + v.2.2.2.1))) (1:Int))), v.2.2.2.2.2.1, v.2.2.2.2.2.2))
theorem slices_BinarySearchFunc_api_Meeting_api_Meeting_api_Ratio_at_meet_behind_1_g4 (C : slices_BinarySearchFunc_api_Meeting_api_Meeting_api_Ratio_at_meet_behind_1_C) (v : slices_BinarySearchFunc_api_Meeting_api_Meeting_api_Ratio_at_meet_behind_1_Y3) : treg tysT (orc (slices_BinarySearchFunc_api_Meeting_api_Meeting_api_Ratio_at_meet_behind_1_tab C)) 49 (regO (bodyOf f40) 4) false [(0, (.val Riiii)), (2, .any), (4, .any), (8, .any), (9, .any), (10, .any), (11, .any)] (slices_BinarySearchFunc_api_Meeting_api_Meeting_api_Ratio_at_meet_behind_1_S3 v) some = (slices_BinarySearchFunc_api_Meeting_api_Meeting_api_Ratio_at_meet_behind_1_r4 C v).eval fun y => some (slices_BinarySearchFunc_api_Meeting_api_Meeting_api_Ratio_at_meet_behind_1_S4 y) := by kernel_rfl
abbrev slices_BinarySearchFunc_api_Meeting_api_Meeting_api_Ratio_at_meet_behind_1_Y5 : Type := List Diiii × Int × Int × Int × Int × Bool × Int × Int
def slices_BinarySearchFunc_api_Meeting_api_Meeting_api_Ratio_at_meet_behind_1_S5 (v : slices_BinarySearchFunc_api_Meeting_api_Meeting_api_Ratio_at_meet_behind_1_Y5) : St := ⟨[(0, .fz Riiii v.1), (2, .fn 41 []), (4, .ptr 0 0), (8, .int .i64 v.2.1), (9, .int .i64 v.2.2.1), (10, .int .i64 v.2.2.2.1), (11, .int .i64 v.2.2.2.2.1), (31, .bool v.2.2.2.2.2.1)], [.cells [.int .i64 v.2.2.2.2.2.2.1, .int .i64 v.2.2.2.2.2.2.2]]⟩
def slices_BinarySearchFunc_api_Meeting_api_Meeting_api_Ratio_at_meet_behind_1_r5 (C : slices_BinarySearchFunc_api_Meeting_api_Meeting_api_Ratio_at_meet_behind_1_C) (v : slices_BinarySearchFunc_api_Meeting_api_Meeting_api_Ratio_at_meet_behind_1_Y4) : Dt slices_BinarySearchFunc_api_Meeting_api_Meeting_api_Ratio_at_meet_behind_1_Y5 := (Dt.ite (inB v.2.2.2.2.1 (List.length v.1)) (Dt.bnd (C.1 (((elt ziiii v.1 (v.2.2.2.2.1).toNat).1, (elt ziiii v.1 (v.2.2.2.2.1).toNat).2.1, (elt ziiii v.1 (v.2.2.2.2.1).toNat).2.2.1, (elt ziiii v.1 (v.2.2.2.2.1).toNat).2.2.2.1, ()), (v.2.2.2.2.2.1, v.2.2.2.2.2.2, ()), ())) fun r1 => (Dt.ret (v.1, v.2.1, v.2.2.1, v.2.2.2.1, v.2.2.2.2.1, (decide (r1 < (0:Int))), v.2.2.2.2.2.1, v.2.2.2.2.2.2))) Dt.fail)
theorem slices_BinarySearchFunc_api_Meeting_api_Meeting_api_Ratio_at_meet_behind_1_g5 (C : slices_BinarySearchFunc_api_Meeting_api_Meeting_api_Ratio_at_meet_behind_1_C) (v : slices_BinarySearchFunc_api_Meeting_api_Meeting_api_Ratio_at_meet_behind_1_Y4) : treg tysT (orc (slices_BinarySearchFunc_api_Meeting_api_Meeting_api_Ratio_at_meet_behind_1_tab C)) 49 (regO (bodyOf f40) 5) true [(0, (.val Riiii)), (2, .any), (4, .any), (8, .any), (9, .any), (10, .any), (11, .any), (31, .any)] (slices_BinarySearchFunc_api_Meeting_api_Meeting_api_Ratio_at_meet_behind_1_S4 v) some = (slices_BinarySearchFunc_api_Meeting_api_Meeting_api_Ratio_at_meet_behind_1_r5 C v).eval fun y => some (slices_BinarySearchFunc_api_Meeting_api_Meeting_api_Ratio_at_meet_behind_1_S5 y) := by kernel_rfl
def slices_BinarySearchFunc_api_Meeting_api_Meeting_api_Ratio_at_meet_behind_1_r6 (C : slices_BinarySearchFunc_api_Meeting_api_Meeting_api_Ratio_at_meet_behind_1_C) (v : slices_BinarySearchFunc_api_Meeting_api_Meeting_api_Ratio_at_meet_behind_1_Y5) : Dt slices_BinarySearchFunc_api_Meeting_api_Meeting_api_Ratio_at_meet_behind_1_Y2 := (Dt.ret (v.1, v.2.1, (IntKind.wrap .i64 (v.2.2.2.2.1 + (1:Int))), v.2.2.2.1, v.2.2.2.2.2.2.1, v.2.2.2.2.2.2.2))
theorem slices_BinarySearchFunc_api_Meeting_api_Meeting_api_Ratio_at_meet_behind_1_g6 (C : slices_BinarySearchFunc_api_Meeting_api_Meeting_api_Ratio_at_meet_behind_1_C) (v : slices_BinarySearchFunc_api_Meeting_api_Meeting_api_Ratio_at_meet_behind_1_Y5) : treg tysT (orc (slices_BinarySearchFunc_api_Meeting_api_Meeting_api_Ratio_at_meet_behind_1_tab C)) 49 (regO (bodyOf f40) 6) false [(0, (.val Riiii)), (2, .any), (4, .any), (8, .any), (9, .any), (10, .any)] (slices_BinarySearchFunc_api_Meeting_api_Meeting_api_Ratio_at_meet_behind_1_S5 v) some = (slices_BinarySearchFunc_api_Meeting_api_Meeting_api_Ratio_at_meet_behind_1_r6 C v).eval fun y => some (slices_BinarySearchFunc_api_Meeting_api_Meeting_api_Ratio_at_meet_behind_1_S2 y) := by kernel_rfl
def slices_BinarySearchFunc_api_Meeting_api_Meeting_api_Ratio_at_meet_behind_1_r7 (C : slices_BinarySearchFunc_api_Meeting_api_Meeting_api_Ratio_at_meet_behind_1_C) (v : slices_BinarySearchFunc_api_Meeting_api_Meeting_api_Ratio_at_meet_behind_1_Y5) : Dt slices_BinarySearchFunc_api_Meeting_api_Meeting_api_Ratio_at_meet_behind_1_Y2 := (Dt.ret (v.1, v.2.1, v.2.2.1, v.2.2.2.2.1, v.2.2.2.2.2.2.1, v.2.2.2.2.2.2.2))
theorem slices_BinarySearchFunc_api_Meeting_api_Meeting_api_Ratio_at_meet_behind_1_g7 (C : slices_BinarySearchFunc_api_Meeting_api_Meeting_api_Ratio_at_meet_behind_1_C) (v : slices_BinarySearchFunc_api_Meeting_api_Meeting_api_Ratio_at_meet_behind_1_Y5) : treg tysT (orc (slices_BinarySearchFunc_api_Meeting_api_Meeting_api_Ratio_at_meet_behind_1_tab C)) 49 (regO (bodyOf f40) 7) false [(0, (.val Riiii)), (2, .any), (4, .any), (8, .any), (9, .any), (10, .any)] (slices_BinarySearchFunc_api_Meeting_api_Meeting_api_Ratio_at_meet_behind_1_S5 v) some = (slices_BinarySearchFunc_api_Meeting_api_Meeting_api_Ratio_at_meet_behind_1_r7 C v).eval fun y => some (slices_BinarySearchFunc_api_Meeting_api_Meeting_api_Ratio_at_meet_behind_1_S2 y) := by kernel_rfl
abbrev slices_BinarySearchFunc_api_Meeting_api_Meeting_api_Ratio_at_meet_behind_1_Y8 : Type := Int × Bool
def slices_BinarySearchFunc_api_Meeting_api_Meeting_api_Ratio_at_meet_behind_1_S8 (v : slices_BinarySearchFunc_api_Meeting_api_Meeting_api_Ratio_at_meet_behind_1_Y8) : St := ⟨[(6, .int .i64 v.1), (7, .bool v.2)], []⟩
def slices_BinarySearchFunc_api_Meeting_api_Meeting_api_Ratio_at_meet_behind_1_r8 (C : slices_BinarySearchFunc_api_Meeting_api_Meeting_api_Ratio_at_meet_behind_1_C) (v : slices_BinarySearchFunc_api_Meeting_api_Meeting_api_Ratio_at_meet_behind_1_Y3) : Dt slices_BinarySearchFunc_api_Meeting_api_Meeting_api_Ratio_at_meet_behind_1_Y8 := (Dt.ite (decide (v.2.2.1 < v.2.1)) (Dt.ite (inB v.2.2.1 (List.length v.1)) (Dt.bnd (C.1 (((elt ziiii v.1 (v.2.2.1).toNat).1, (elt ziiii v.1 (v.2.2.1).toNat).2.1, (elt ziiii v.1 (v.2.2.1).toNat).2.2.1, (elt ziiii v.1 (v.2.2.1).toNat).2.2.2.1, ()), (v.2.2.2.2.2.1, v.2.2.2.2.2.2, ()), ())) fun r1 => (Dt.ret (v.2.2.1, (r1 == (0:Int))))) Dt.fail) (Dt.ret (v.2.2.1, false)))
theorem slices_BinarySearchFunc_api_Meeting_api_Meeting_api_Ratio_at_meet_behind_1_g8 (C : slices_BinarySearchFunc_api_Meeting_api_Meeting_api_Ratio_at_meet_behind_1_C) (v : slices_BinarySearchFunc_api_Meeting_api_Meeting_api_Ratio_at_meet_behind_1_Y3) : treg tysT (orc (slices_BinarySearchFunc_api_Meeting_api_Meeting_api_Ratio_at_meet_behind_1_tab C)) 49 (regO (bodyOf f40) 8) true [(6, .any), (7, .any)] (slices_BinarySearchFunc_api_Meeting_api_Meeting_api_Ratio_at_meet_behind_1_S3 v) some = (slices_BinarySearchFunc_api_Meeting_api_Meeting_api_Ratio_at_meet_behind_1_r8 C v).eval fun y => some (slices_BinarySearchFunc_api_Meeting_api_Meeting_api_Ratio_at_meet_behind_1_S8 y) := by kernel_rfl
def slices_BinarySearchFunc_api_Meeting_api_Meeting_api_Ratio_at_meet_behind_1_L1 (d : Nat) (self1 : (List Diiii × Int × Int × Int × Int × Int) → Option slices_BinarySearchFunc_api_Meeting_api_Meeting_api_Ratio_at_meet_behind_1_R) (x1 : List Diiii × Int × Int × Int × Int × Int) : Option slices_BinarySearchFunc_api_Meeting_api_Meeting_api_Ratio_at_meet_behind_1_R :=
  (slices_BinarySearchFunc_api_Meeting_api_Meeting_api_Ratio_at_meet_behind_1_r3 (slices_BinarySearchFunc_api_Meeting_api_Meeting_api_Ratio_at_meet_behind_1_K d) x1).eval fun y3 =>
  bif y3.2.2.2.2.1 then ((slices_BinarySearchFunc_api_Meeting_api_Meeting_api_Ratio_at_meet_behind_1_r4 (slices_BinarySearchFunc_api_Meeting_api_Meeting_api_Ratio_at_meet_behind_1_K d) y3).eval fun y4 =>
  (slices_BinarySearchFunc_api_Meeting_api_Meeting_api_Ratio_at_meet_behind_1_r5 (slices_BinarySearchFunc_api_Meeting_api_Meeting_api_Ratio_at_meet_behind_1_K d) y4).eval fun y5 =>
  bif y5.2.2.2.2.2.1 then ((slices_BinarySearchFunc_api_Meeting_api_Meeting_api_Ratio_at_meet_behind_1_r6 (slices_BinarySearchFunc_api_Meeting_api_Meeting_api_Ratio_at_meet_behind_1_K d) y5).eval fun y6 =>
  self1 y6) else ((slices_BinarySearchFunc_api_Meeting_api_Meeting_api_Ratio_at_meet_behind_1_r7 (slices_BinarySearchFunc_api_Meeting_api_Meeting_api_Ratio_at_meet_behind_1_K d) y5).eval fun y7 =>
  self1 y7)) else ((slices_BinarySearchFunc_api_Meeting_api_Meeting_api_Ratio_at_meet_behind_1_r8 (slices_BinarySearchFunc_api_Meeting_api_Meeting_api_Ratio_at_meet_behind_1_K d) y3).eval fun y8 =>
  some y8)
def F_slices_BinarySearchFunc_api_Meeting_api_Meeting_api_Ratio_at_meet_behind_1 (d : Nat) (x : slices_BinarySearchFunc_api_Meeting_api_Meeting_api_Ratio_at_meet_behind_1_X) : Option slices_BinarySearchFunc_api_Meeting_api_Meeting_api_Ratio_at_meet_behind_1_R :=
  (slices_BinarySearchFunc_api_Meeting_api_Meeting_api_Ratio_at_meet_behind_1_r0 (slices_BinarySearchFunc_api_Meeting_api_Meeting_api_Ratio_at_meet_behind_1_K d) (x.1.1, x.2.1.1, x.2.1.2.1)).eval fun y0 =>
  (slices_BinarySearchFunc_api_Meeting_api_Meeting_api_Ratio_at_meet_behind_1_r1 (slices_BinarySearchFunc_api_Meeting_api_Meeting_api_Ratio_at_meet_behind_1_K d) y0).eval fun y1 =>
  (slices_BinarySearchFunc_api_Meeting_api_Meeting_api_Ratio_at_meet_behind_1_r2 (slices_BinarySearchFunc_api_Meeting_api_Meeting_api_Ratio_at_meet_behind_1_K d) y1).eval fun y2 =>
  iter (slices_BinarySearchFunc_api_Meeting_api_Meeting_api_Ratio_at_meet_behind_1_L1 d ) d y2
theorem slices_BinarySearchFunc_api_Meeting_api_Meeting_api_Ratio_at_meet_behind_1_cok (d : Nat) : COK prog (slices_BinarySearchFunc_api_Meeting_api_Meeting_api_Ratio_at_meet_behind_1_sp (F_slices_BinarySearchFunc_api_Meeting_api_Meeting_api_Ratio_at_meet_behind_1 d)) := by
  have hm : prog.follows .mixedOrders = true := mixed
  have hT := tys
  have hC0 : OrcOK prog (orc (slices_BinarySearchFunc_api_Meeting_api_Meeting_api_Ratio_at_meet_behind_1_tab (slices_BinarySearchFunc_api_Meeting_api_Meeting_api_Ratio_at_meet_behind_1_K d))) := orc_ok (by
    intro S hS
    simp only [slices_BinarySearchFunc_api_Meeting_api_Meeting_api_Ratio_at_meet_behind_1_tab, List.mem_cons, List.not_mem_nil, or_false] at hS
    subst hS; exact meet_behind_1_cok d)
  have hC : OrcOK prog (orc (slices_BinarySearchFunc_api_Meeting_api_Meeting_api_Ratio_at_meet_behind_1_tab (slices_BinarySearchFunc_api_Meeting_api_Meeting_api_Ratio_at_meet_behind_1_K d))) := hC0
  refine cok_of (c := bodyOf f40) (fn := f40) hT (by kernel_rfl) (by kernel_rfl) (by decide) fun x r h w0 φ0 Q hend => ?_
  replace h : F_slices_BinarySearchFunc_api_Meeting_api_Meeting_api_Ratio_at_meet_behind_1 d x = some r := h
  unfold F_slices_BinarySearchFunc_api_Meeting_api_Meeting_api_Ratio_at_meet_behind_1 at h
  show Run prog w0 φ0 49 (bodyOf f40) ⟨[(0, .fz Riiii x.1.1), (1, .agg [.int .i64 x.2.1.1, .int .i64 x.2.1.2.1]), (2, .fn 41 [])], []⟩ Q
  refine run_seq ?_
  refine run_reg hm hT hC (slices_BinarySearchFunc_api_Meeting_api_Meeting_api_Ratio_at_meet_behind_1_g0 (slices_BinarySearchFunc_api_Meeting_api_Meeting_api_Ratio_at_meet_behind_1_K d) (x.1.1, x.2.1.1, x.2.1.2.1)) h ?_
  intro y0 h
  refine cn_then ?_
  refine run_seq ?_
  refine run_reg hm hT hC (slices_BinarySearchFunc_api_Meeting_api_Meeting_api_Ratio_at_meet_behind_1_g1 (slices_BinarySearchFunc_api_Meeting_api_Meeting_api_Ratio_at_meet_behind_1_K d) y0) h ?_
  intro y1 h
  refine cn_then ?_
  refine run_seq ?_
  refine run_reg hm hT hC (slices_BinarySearchFunc_api_Meeting_api_Meeting_api_Ratio_at_meet_behind_1_g2 (slices_BinarySearchFunc_api_Meeting_api_Meeting_api_Ratio_at_meet_behind_1_K d) y1) h ?_
  intro y2 h
  refine cn_then ?_
  refine run_seq ?_
  refine run_block ?_
  refine run_loop (G := iter (slices_BinarySearchFunc_api_Meeting_api_Meeting_api_Ratio_at_meet_behind_1_L1 d )) (S := (fun x1 => ⟨[(0, .fz Riiii x1.1), (2, .fn 41 []), (4, .ptr 0 0), (8, .int .i64 x1.2.1), (9, .int .i64 x1.2.2.1), (10, .int .i64 x1.2.2.2.1)], [.cells [.int .i64 x1.2.2.2.2.1, .int .i64 x1.2.2.2.2.2]]⟩ : List Diiii × Int × Int × Int × Int × Int → St)) (fun _ => rfl) ?_ d _ h
  intro n1 x1 h K1 hn1
  replace h : slices_BinarySearchFunc_api_Meeting_api_Meeting_api_Ratio_at_meet_behind_1_L1 d  (iter (slices_BinarySearchFunc_api_Meeting_api_Meeting_api_Ratio_at_meet_behind_1_L1 d ) n1) x1 = some r := h
  generalize iter (slices_BinarySearchFunc_api_Meeting_api_Meeting_api_Ratio_at_meet_behind_1_L1 d ) n1 = self1 at h hn1
  unfold slices_BinarySearchFunc_api_Meeting_api_Meeting_api_Ratio_at_meet_behind_1_L1 at h
  refine run_seq ?_
  refine run_seq ?_
  refine run_reg hm hT hC (slices_BinarySearchFunc_api_Meeting_api_Meeting_api_Ratio_at_meet_behind_1_g3 (slices_BinarySearchFunc_api_Meeting_api_Meeting_api_Ratio_at_meet_behind_1_K d) x1) h ?_
  intro y3 h
  refine cn_then ?_
  refine run_cond (v := y3.2.2.2.2.1) (by kernel_rfl) h ?_ ?_
  ·
    intro h
    refine run_skip ?_
    refine cn_then ?_
    refine run_block ?_
    refine run_seq ?_
    refine run_reg hm hT hC (slices_BinarySearchFunc_api_Meeting_api_Meeting_api_Ratio_at_meet_behind_1_g4 (slices_BinarySearchFunc_api_Meeting_api_Meeting_api_Ratio_at_meet_behind_1_K d) y3) h ?_
    intro y4 h
    refine cn_then ?_
    refine run_seq ?_
    refine run_reg hm hT hC (slices_BinarySearchFunc_api_Meeting_api_Meeting_api_Ratio_at_meet_behind_1_g5 (slices_BinarySearchFunc_api_Meeting_api_Meeting_api_Ratio_at_meet_behind_1_K d) y4) h ?_
    intro y5 h
    refine cn_then ?_
    refine run_cond (v := y5.2.2.2.2.2.1) (by kernel_rfl) h ?_ ?_
    ·
      intro h
      refine run_reg hm hT hC (slices_BinarySearchFunc_api_Meeting_api_Meeting_api_Ratio_at_meet_behind_1_g6 (slices_BinarySearchFunc_api_Meeting_api_Meeting_api_Ratio_at_meet_behind_1_K d) y5) h ?_
      intro y6 h
      refine cn_blk ?_
      exact hn1 _ h
    ·
      intro h
      refine run_reg hm hT hC (slices_BinarySearchFunc_api_Meeting_api_Meeting_api_Ratio_at_meet_behind_1_g7 (slices_BinarySearchFunc_api_Meeting_api_Meeting_api_Ratio_at_meet_behind_1_K d) y5) h ?_
      intro y7 h
      refine cn_blk ?_
      exact hn1 _ h
  ·
    intro h
    refine run_exit ?_
    refine cn_then_exit ?_
    refine cn_then_exit ?_
    refine cn_blk_eq ?_
    refine cn_then ?_
    refine run_seq ?_
    refine run_reg hm hT hC (slices_BinarySearchFunc_api_Meeting_api_Meeting_api_Ratio_at_meet_behind_1_g8 (slices_BinarySearchFunc_api_Meeting_api_Meeting_api_Ratio_at_meet_behind_1_K d) y3) h ?_
    intro y8 h
    refine cn_then ?_
    refine run_ret ?_
    cases h
    exact (hend _ (by kernel_rfl)).2
abbrev meet_behind_ps : List Pk := [.row RLiiiiE false, .row Rii true]
abbrev meet_behind_X : Type := DLiiiiE × Dii × Unit
abbrev meet_behind_R : Type := Int
def meet_behind_enc (r : meet_behind_R) : LV × List Ob := (.int .i64 r, [])
def meet_behind_sp (F : meet_behind_X → Option meet_behind_R) : Go.Tx.Spec := ⟨24, meet_behind_ps, meet_behind_R, F, meet_behind_enc⟩
abbrev meet_behind_C : Type := (slices_BinarySearchFunc_api_Meeting_api_Meeting_api_Ratio_at_meet_behind_1_X → Option slices_BinarySearchFunc_api_Meeting_api_Meeting_api_Ratio_at_meet_behind_1_R) × Unit
def meet_behind_K (d : Nat) : meet_behind_C := (F_slices_BinarySearchFunc_api_Meeting_api_Meeting_api_Ratio_at_meet_behind_1 d, ())
def meet_behind_tab (C : meet_behind_C) : List Go.Tx.Spec := [slices_BinarySearchFunc_api_Meeting_api_Meeting_api_Ratio_at_meet_behind_1_sp C.1]
abbrev meet_behind_Y0i : Type := List Diiii × Int × Int
def meet_behind_S0i (v : meet_behind_Y0i) : St := ⟨[(0, .fz Riiii v.1), (1, .agg [.int .i64 v.2.1, .int .i64 v.2.2])], []⟩
abbrev meet_behind_Y0 : Type := List Diiii × Int × Int
def meet_behind_S0 (v : meet_behind_Y0) : St := ⟨[(0, .fz Riiii v.1), (3, .ptr 0 0)], [.cells [.int .i64 v.2.1, .int .i64 v.2.2]]⟩
def meet_behind_r0 (C : meet_behind_C) (v : meet_behind_Y0i) : Dt meet_behind_Y0 := (Dt.ret (v.1, v.2.1, v.2.2))
theorem meet_behind_g0 (C : meet_behind_C) (v : meet_behind_Y0i) : treg tysT (orc (meet_behind_tab C)) 14 (regO (bodyOf f24) 0) false [(0, (.val Riiii)), (3, .any)] (meet_behind_S0i v) some = (meet_behind_r0 C v).eval fun y => some (meet_behind_S0 y) := by kernel_rfl
abbrev meet_behind_Y1 : Type := Int
def meet_behind_S1 (v : meet_behind_Y1) : St := ⟨[(5, .int .i64 v)], []⟩
def meet_behind_r1 (C : meet_behind_C) (v : meet_behind_Y0) : Dt meet_behind_Y1 := (Dt.bnd (C.1 ((v.1, ()), (v.2.1, v.2.2, ()), (()), ())) fun r1 => (Dt.ret r1.1))
theorem meet_behind_g1 (C : meet_behind_C) (v : meet_behind_Y0) : treg tysT (orc (meet_behind_tab C)) 14 (regO (bodyOf f24) 1) false [(5, .any)] (meet_behind_S0 v) some = (meet_behind_r1 C v).eval fun y => some (meet_behind_S1 y) := by kernel_rfl
abbrev meet_behind_Y2 : Type := Int
def meet_behind_S2 (v : meet_behind_Y2) : St := ⟨[(4, .int .i64 v)], []⟩
def meet_behind_r2 (C : meet_behind_C) (v : meet_behind_Y1) : Dt meet_behind_Y2 := (Dt.ret v)
theorem meet_behind_g2 (C : meet_behind_C) (v : meet_behind_Y1) : treg tysT (orc (meet_behind_tab C)) 14 (regO (bodyOf f24) 2) false [(4, .any)] (meet_behind_S1 v) some = (meet_behind_r2 C v).eval fun y => some (meet_behind_S2 y) := by kernel_rfl
def F_meet_behind (d : Nat) (x : meet_behind_X) : Option meet_behind_R :=
  (meet_behind_r0 (meet_behind_K d) (x.1.1, x.2.1.1, x.2.1.2.1)).eval fun y0 =>
  (meet_behind_r1 (meet_behind_K d) y0).eval fun y1 =>
  (meet_behind_r2 (meet_behind_K d) y1).eval fun y2 =>
  some y2
theorem meet_behind_cok (d : Nat) : COK prog (meet_behind_sp (F_meet_behind d)) := by
  have hm : prog.follows .mixedOrders = true := mixed
  have hT := tys
  have hC0 : OrcOK prog (orc (meet_behind_tab (meet_behind_K d))) := orc_ok (by
    intro S hS
    simp only [meet_behind_tab, List.mem_cons, List.not_mem_nil, or_false] at hS
    subst hS; exact slices_BinarySearchFunc_api_Meeting_api_Meeting_api_Ratio_at_meet_behind_1_cok d)
  have hC : OrcOK prog (orc (meet_behind_tab (meet_behind_K d))) := hC0
  refine cok_of (c := bodyOf f24) (fn := f24) hT (by kernel_rfl) (by kernel_rfl) (by decide) fun x r h w0 φ0 Q hend => ?_
  replace h : F_meet_behind d x = some r := h
  unfold F_meet_behind at h
  show Run prog w0 φ0 14 (bodyOf f24) ⟨[(0, .fz Riiii x.1.1), (1, .agg [.int .i64 x.2.1.1, .int .i64 x.2.1.2.1])], []⟩ Q
  refine run_seq ?_
  refine run_reg hm hT hC (meet_behind_g0 (meet_behind_K d) (x.1.1, x.2.1.1, x.2.1.2.1)) h ?_
  intro y0 h
  refine cn_then ?_
  refine run_seq ?_
  refine run_reg hm hT hC (meet_behind_g1 (meet_behind_K d) y0) h ?_
  intro y1 h
  refine cn_then ?_
  refine run_seq ?_
  refine run_reg hm hT hC (meet_behind_g2 (meet_behind_K d) y1) h ?_
  intro y2 h
  refine cn_then ?_
  refine run_ret ?_
  cases h
  exact (hend _ (by kernel_rfl)).2
abbrev meet_All_ps : List Pk := [.row RLiiiE true, .row Rii true, .row Rii true]
abbrev meet_All_X : Type := DLiiiE × Dii × Dii × Unit
abbrev meet_All_R : Type := List Diiii × Int
def meet_All_enc (r : meet_All_R) : LV × List Ob := (.tup [.fz Riiii r.1, .int .i64 r.2], [])
def meet_All_sp (F : meet_All_X → Option meet_All_R) : Go.Tx.Spec := ⟨17, meet_All_ps, meet_All_R, F, meet_All_enc⟩
abbrev meet_All_C : Type := (meet_check_X → Option meet_check_R) × (meet_all_X → Option meet_all_R) × (meet_behind_X → Option meet_behind_R) × Unit
def meet_All_K (d : Nat) : meet_All_C := (F_meet_check d, F_meet_all d, F_meet_behind d, ())
def meet_All_tab (C : meet_All_C) : List Go.Tx.Spec := [meet_check_sp C.1, meet_all_sp C.2.1, meet_behind_sp C.2.2.1]
abbrev meet_All_Y0i : Type := List Diii × Int × Int × Int × Int
def meet_All_S0i (v : meet_All_Y0i) : St := ⟨[(0, .agg [.fz Riii v.1]), (1, .agg [.int .i64 v.2.1, .int .i64 v.2.2.1]), (2, .agg [.int .i64 v.2.2.2.1, .int .i64 v.2.2.2.2])], []⟩
abbrev meet_All_Y0 : Type := List Diii × Int × Int × Int × Int
def meet_All_S0 (v : meet_All_Y0) : St := ⟨[(3, .ptr 0 0), (4, .ptr 1 0), (5, .ptr 2 0)], [.cells [.fz Riii v.1], .cells [.int .i64 v.2.1, .int .i64 v.2.2.1], .cells [.int .i64 v.2.2.2.1, .int .i64 v.2.2.2.2]]⟩
def meet_All_r0 (C : meet_All_C) (v : meet_All_Y0i) : Dt meet_All_Y0 := (Dt.ret (v.1, v.2.1, v.2.2.1, v.2.2.2.1, v.2.2.2.2))
theorem meet_All_g0 (C : meet_All_C) (v : meet_All_Y0i) : treg tysT (orc (meet_All_tab C)) 33 (regO (bodyOf f17) 0) false [(3, (.box [.val Riii])), (4, .any), (5, .any)] (meet_All_S0i v) some = (meet_All_r0 C v).eval fun y => some (meet_All_S0 y) := by kernel_rfl
abbrev meet_All_Y1 : Type := Int × List Diii × Int × Int × Int × Int
def meet_All_S1 (v : meet_All_Y1) : St := ⟨[(3, .ptr 0 0), (4, .ptr 1 0), (5, .ptr 2 0), (8, .int .i64 v.1)], [.cells [.fz Riii v.2.1], .cells [.int .i64 v.2.2.1, .int .i64 v.2.2.2.1], .cells [.int .i64 v.2.2.2.2.1, .int .i64 v.2.2.2.2.2]]⟩
def meet_All_r1 (C : meet_All_C) (v : meet_All_Y0) : Dt meet_All_Y1 := (Dt.bnd (C.1 ((v.1, ()), (([(v.2.1, v.2.2.1, ()), (v.2.2.2.1, v.2.2.2.2, ())] : List Dii), ()), ())) fun r1 => (Dt.ret (r1, v.1, v.2.1, v.2.2.1, v.2.2.2.1, v.2.2.2.2)))
theorem meet_All_g1 (C : meet_All_C) (v : meet_All_Y0) : treg tysT (orc (meet_All_tab C)) 33 (regO (bodyOf f17) 1) false [(3, (.box [.val Riii])), (4, .any), (5, .any), (8, .any)] (meet_All_S0 v) some = (meet_All_r1 C v).eval fun y => some (meet_All_S1 y) := by kernel_rfl
abbrev meet_All_Y2 : Type := Int × Bool × List Diii × Int × Int × Int × Int
def meet_All_S2 (v : meet_All_Y2) : St := ⟨[(3, .ptr 0 0), (4, .ptr 1 0), (5, .ptr 2 0), (8, .int .i64 v.1), (18, .bool v.2.1)], [.cells [.fz Riii v.2.2.1], .cells [.int .i64 v.2.2.2.1, .int .i64 v.2.2.2.2.1], .cells [.int .i64 v.2.2.2.2.2.1, .int .i64 v.2.2.2.2.2.2]]⟩
def meet_All_r2 (C : meet_All_C) (v : meet_All_Y1) : Dt meet_All_Y2 := (Dt.ret (v.1, (v.1 != (0:Int)), v.2.1, v.2.2.1, v.2.2.2.1, v.2.2.2.2.1, v.2.2.2.2.2))
theorem meet_All_g2 (C : meet_All_C) (v : meet_All_Y1) : treg tysT (orc (meet_All_tab C)) 33 (regO (bodyOf f17) 2) false [(3, (.box [.val Riii])), (4, .any), (5, .any), (8, .any), (18, .any)] (meet_All_S1 v) some = (meet_All_r2 C v).eval fun y => some (meet_All_S2 y) := by kernel_rfl
abbrev meet_All_Y3 : Type := List Diiii × Int
def meet_All_S3 (v : meet_All_Y3) : St := ⟨[(6, .fz Riiii v.1), (7, .int .i64 v.2)], []⟩
def meet_All_r3 (C : meet_All_C) (v : meet_All_Y2) : Dt meet_All_Y3 := (Dt.ret (([] : List Diiii), v.1))
theorem meet_All_g3 (C : meet_All_C) (v : meet_All_Y2) : treg tysT (orc (meet_All_tab C)) 33 (regO (bodyOf f17) 3) false [(6, (.val Riiii)), (7, .any)] (meet_All_S2 v) some = (meet_All_r3 C v).eval fun y => some (meet_All_S3 y) := by kernel_rfl
abbrev meet_All_Y4 : Type := Int × Int × Int × Int × List Diiii
def meet_All_S4 (v : meet_All_Y4) : St := ⟨[(4, .ptr 0 0), (5, .ptr 1 0), (9, .rs 2)], [.cells [.int .i64 v.1, .int .i64 v.2.1], .cells [.int .i64 v.2.2.1, .int .i64 v.2.2.2.1], .rows Riiii v.2.2.2.2]⟩
def meet_All_r4 (C : meet_All_C) (v : meet_All_Y2) : Dt meet_All_Y4 := (Dt.bnd (C.2.1 ((v.2.2.1, ()), ())) fun r1 => (Dt.ret (v.2.2.2.1, v.2.2.2.2.1, v.2.2.2.2.2.1, v.2.2.2.2.2.2, r1)))
theorem meet_All_g4 (C : meet_All_C) (v : meet_All_Y2) : treg tysT (orc (meet_All_tab C)) 33 (regO (bodyOf f17) 4) false [(4, .any), (5, .any), (9, (.own Riiii))] (meet_All_S2 v) some = (meet_All_r4 C v).eval fun y => some (meet_All_S4 y) := by kernel_rfl
abbrev meet_All_Y5 : Type := Int × Int × List Diiii
def meet_All_S5 (v : meet_All_Y5) : St := ⟨[(9, .rs 0), (10, .int .i64 v.1), (11, .int .i64 v.2.1)], [.rows Riiii v.2.2]⟩
def meet_All_r5 (C : meet_All_C) (v : meet_All_Y4) : Dt meet_All_Y5 := (Dt.bnd (C.2.2.1 ((v.2.2.2.2, ()), (v.1, v.2.1, ()), ())) fun r1 => (Dt.bnd (C.2.2.1 ((v.2.2.2.2, ()), (v.2.2.1, v.2.2.2.1, ()), ())) fun r2 => (Dt.ret (r1, r2, v.2.2.2.2))))
theorem meet_All_g5 (C : meet_All_C) (v : meet_All_Y4) : treg tysT (orc (meet_All_tab C)) 33 (regO (bodyOf f17) 5) true [(9, (.own Riiii)), (10, .any), (11, .any)] (meet_All_S4 v) some = (meet_All_r5 C v).eval fun y => some (meet_All_S5 y) := by kernel_rfl
def meet_All_r6 (C : meet_All_C) (v : meet_All_Y5) : Dt meet_All_Y3 := (Dt.ite (cut3B v.1 v.2.1 v.2.1 (List.length v.2.2)) (Dt.ret ((List.drop (v.1).toNat (List.take (v.2.1).toNat v.2.2)), (0:Int))) Dt.fail)
theorem meet_All_g6 (C : meet_All_C) (v : meet_All_Y5) : treg tysT (orc (meet_All_tab C)) 33 (regO (bodyOf f17) 6) false [(6, (.val Riiii)), (7, .any)] (meet_All_S5 v) some = (meet_All_r6 C v).eval fun y => some (meet_All_S3 y) := by kernel_rfl
def F_meet_All (d : Nat) (x : meet_All_X) : Option meet_All_R :=
  (meet_All_r0 (meet_All_K d) (x.1.1, x.2.1.1, x.2.1.2.1, x.2.2.1.1, x.2.2.1.2.1)).eval fun y0 =>
  (meet_All_r1 (meet_All_K d) y0).eval fun y1 =>
  (meet_All_r2 (meet_All_K d) y1).eval fun y2 =>
  bif y2.2.1 then ((meet_All_r3 (meet_All_K d) y2).eval fun y3 =>
  some y3) else ((meet_All_r4 (meet_All_K d) y2).eval fun y4 =>
  (meet_All_r5 (meet_All_K d) y4).eval fun y5 =>
  (meet_All_r6 (meet_All_K d) y5).eval fun y6 =>
  some y6)
theorem meet_All_cok (d : Nat) : COK prog (meet_All_sp (F_meet_All d)) := by
  have hm : prog.follows .mixedOrders = true := mixed
  have hT := tys
  have hC0 : OrcOK prog (orc (meet_All_tab (meet_All_K d))) := orc_ok (by
    intro S hS
    simp only [meet_All_tab, List.mem_cons, List.not_mem_nil, or_false] at hS
    rcases hS with rfl | rfl | rfl
    · exact meet_check_cok d
    · exact meet_all_cok d
    · exact meet_behind_cok d)
  have hC : OrcOK prog (orc (meet_All_tab (meet_All_K d))) := hC0
  refine cok_of (c := bodyOf f17) (fn := f17) hT (by kernel_rfl) (by kernel_rfl) (by decide) fun x r h w0 φ0 Q hend => ?_
  replace h : F_meet_All d x = some r := h
  unfold F_meet_All at h
  show Run prog w0 φ0 33 (bodyOf f17) ⟨[(0, .agg [.fz Riii x.1.1]), (1, .agg [.int .i64 x.2.1.1, .int .i64 x.2.1.2.1]), (2, .agg [.int .i64 x.2.2.1.1, .int .i64 x.2.2.1.2.1])], []⟩ Q
  refine run_seq ?_
  refine run_reg hm hT hC (meet_All_g0 (meet_All_K d) (x.1.1, x.2.1.1, x.2.1.2.1, x.2.2.1.1, x.2.2.1.2.1)) h ?_
  intro y0 h
  refine cn_then ?_
  refine run_seq ?_
  refine run_seq ?_
  refine run_reg hm hT hC (meet_All_g1 (meet_All_K d) y0) h ?_
  intro y1 h
  refine cn_then ?_
  refine run_seq ?_
  refine run_reg hm hT hC (meet_All_g2 (meet_All_K d) y1) h ?_
  intro y2 h
  refine cn_then ?_
  refine run_cond (v := y2.2.1) (by kernel_rfl) h ?_ ?_
  ·
    intro h
    refine run_seq ?_
    refine run_reg hm hT hC (meet_All_g3 (meet_All_K d) y2) h ?_
    intro y3 h
    refine cn_then ?_
    refine run_ret ?_
    refine cn_then_ret ?_
    cases h
    exact (hend _ (by kernel_rfl)).2
  ·
    intro h
    refine run_skip ?_
    refine cn_then ?_
    refine run_seq ?_
    refine run_reg hm hT hC (meet_All_g4 (meet_All_K d) y2) h ?_
    intro y4 h
    refine cn_then ?_
    refine run_seq ?_
    refine run_reg hm hT hC (meet_All_g5 (meet_All_K d) y4) h ?_
    intro y5 h
    refine cn_then ?_
    refine run_seq ?_
    refine run_reg hm hT hC (meet_All_g6 (meet_All_K d) y5) h ?_
    intro y6 h
    refine cn_then ?_
    refine run_ret ?_
    cases h
    exact (hend _ (by kernel_rfl)).2
abbrev meet_Count_ps : List Pk := [.row RLiiiE true, .row Rii true, .row Rii true]
abbrev meet_Count_X : Type := DLiiiE × Dii × Dii × Unit
abbrev meet_Count_R : Type := Int × Int
def meet_Count_enc (r : meet_Count_R) : LV × List Ob := (.tup [.int .i64 r.1, .int .i64 r.2], [])
def meet_Count_sp (F : meet_Count_X → Option meet_Count_R) : Go.Tx.Spec := ⟨8, meet_Count_ps, meet_Count_R, F, meet_Count_enc⟩
abbrev meet_Count_C : Type := (meet_All_X → Option meet_All_R) × Unit
def meet_Count_K (d : Nat) : meet_Count_C := (F_meet_All d, ())
def meet_Count_tab (C : meet_Count_C) : List Go.Tx.Spec := [meet_All_sp C.1]
abbrev meet_Count_Y0i : Type := List Diii × Int × Int × Int × Int
def meet_Count_S0i (v : meet_Count_Y0i) : St := ⟨[(0, .agg [.fz Riii v.1]), (1, .agg [.int .i64 v.2.1, .int .i64 v.2.2.1]), (2, .agg [.int .i64 v.2.2.2.1, .int .i64 v.2.2.2.2])], []⟩
abbrev meet_Count_Y0 : Type := List Diii × Int × Int × Int × Int
def meet_Count_S0 (v : meet_Count_Y0) : St := ⟨[(3, .ptr 0 0), (4, .ptr 1 0), (5, .ptr 2 0)], [.cells [.fz Riii v.1], .cells [.int .i64 v.2.1, .int .i64 v.2.2.1], .cells [.int .i64 v.2.2.2.1, .int .i64 v.2.2.2.2]]⟩
def meet_Count_r0 (C : meet_Count_C) (v : meet_Count_Y0i) : Dt meet_Count_Y0 := (Dt.ret (v.1, v.2.1, v.2.2.1, v.2.2.2.1, v.2.2.2.2))
theorem meet_Count_g0 (C : meet_Count_C) (v : meet_Count_Y0i) : treg tysT (orc (meet_Count_tab C)) 20 (regO (bodyOf f8) 0) false [(3, (.box [.val Riii])), (4, .any), (5, .any)] (meet_Count_S0i v) some = (meet_Count_r0 C v).eval fun y => some (meet_Count_S0 y) := by kernel_rfl
abbrev meet_Count_Y1 : Type := List Diiii × Int
def meet_Count_S1 (v : meet_Count_Y1) : St := ⟨[(8, .fz Riiii v.1), (9, .int .i64 v.2)], []⟩
def meet_Count_r1 (C : meet_Count_C) (v : meet_Count_Y0) : Dt meet_Count_Y1 := (Dt.bnd (C.1 ((v.1, ()), (v.2.1, v.2.2.1, ()), (v.2.2.2.1, v.2.2.2.2, ()), ())) fun r1 => (Dt.ret (r1.1, r1.2)))
theorem meet_Count_g1 (C : meet_Count_C) (v : meet_Count_Y0) : treg tysT (orc (meet_Count_tab C)) 20 (regO (bodyOf f8) 1) false [(8, (.val Riiii)), (9, .any)] (meet_Count_S0 v) some = (meet_Count_r1 C v).eval fun y => some (meet_Count_S1 y) := by kernel_rfl
abbrev meet_Count_Y2 : Type := Int × Int
def meet_Count_S2 (v : meet_Count_Y2) : St := ⟨[(6, .int .i64 v.1), (7, .int .i64 v.2)], []⟩
def meet_Count_r2 (C : meet_Count_C) (v : meet_Count_Y1) : Dt meet_Count_Y2 := (Dt.ret ((List.length v.1 : Int), v.2))
theorem meet_Count_g2 (C : meet_Count_C) (v : meet_Count_Y1) : treg tysT (orc (meet_Count_tab C)) 20 (regO (bodyOf f8) 2) false [(6, .any), (7, .any)] (meet_Count_S1 v) some = (meet_Count_r2 C v).eval fun y => some (meet_Count_S2 y) := by kernel_rfl
def F_meet_Count (d : Nat) (x : meet_Count_X) : Option meet_Count_R :=
  (meet_Count_r0 (meet_Count_K d) (x.1.1, x.2.1.1, x.2.1.2.1, x.2.2.1.1, x.2.2.1.2.1)).eval fun y0 =>
  (meet_Count_r1 (meet_Count_K d) y0).eval fun y1 =>
  (meet_Count_r2 (meet_Count_K d) y1).eval fun y2 =>
  some y2
theorem meet_Count_cok (d : Nat) : COK prog (meet_Count_sp (F_meet_Count d)) := by
  have hm : prog.follows .mixedOrders = true := mixed
  have hT := tys
  have hC0 : OrcOK prog (orc (meet_Count_tab (meet_Count_K d))) := orc_ok (by
    intro S hS
    simp only [meet_Count_tab, List.mem_cons, List.not_mem_nil, or_false] at hS
    subst hS; exact meet_All_cok d)
  have hC : OrcOK prog (orc (meet_Count_tab (meet_Count_K d))) := hC0
  refine cok_of (c := bodyOf f8) (fn := f8) hT (by kernel_rfl) (by kernel_rfl) (by decide) fun x r h w0 φ0 Q hend => ?_
  replace h : F_meet_Count d x = some r := h
  unfold F_meet_Count at h
  show Run prog w0 φ0 20 (bodyOf f8) ⟨[(0, .agg [.fz Riii x.1.1]), (1, .agg [.int .i64 x.2.1.1, .int .i64 x.2.1.2.1]), (2, .agg [.int .i64 x.2.2.1.1, .int .i64 x.2.2.1.2.1])], []⟩ Q
  refine run_seq ?_
  refine run_reg hm hT hC (meet_Count_g0 (meet_Count_K d) (x.1.1, x.2.1.1, x.2.1.2.1, x.2.2.1.1, x.2.2.1.2.1)) h ?_
  intro y0 h
  refine cn_then ?_
  refine run_seq ?_
  refine run_reg hm hT hC (meet_Count_g1 (meet_Count_K d) y0) h ?_
  intro y1 h
  refine cn_then ?_
  refine run_seq ?_
  refine run_reg hm hT hC (meet_Count_g2 (meet_Count_K d) y1) h ?_
  intro y2 h
  refine cn_then ?_
  refine run_ret ?_
  cases h
  exact (hend _ (by kernel_rfl)).2
abbrev meet_Next_ps : List Pk := [.row RLiiiE true, .row Rii true]
abbrev meet_Next_X : Type := DLiiiE × Dii × Unit
abbrev meet_Next_R : Type := Int × Int × Int × Int × Int
def meet_Next_enc (r : meet_Next_R) : LV × List Ob := (.tup [.agg [.int .i64 r.1, .int .i64 r.2.1, .int .i64 r.2.2.1, .int .i64 r.2.2.2.1], .int .i64 r.2.2.2.2], [])
def meet_Next_sp (F : meet_Next_X → Option meet_Next_R) : Go.Tx.Spec := ⟨10, meet_Next_ps, meet_Next_R, F, meet_Next_enc⟩
abbrev meet_Next_C : Type := (meet_check_X → Option meet_check_R) × (meet_all_X → Option meet_all_R) × (meet_behind_X → Option meet_behind_R) × Unit
def meet_Next_K (d : Nat) : meet_Next_C := (F_meet_check d, F_meet_all d, F_meet_behind d, ())
def meet_Next_tab (C : meet_Next_C) : List Go.Tx.Spec := [meet_check_sp C.1, meet_all_sp C.2.1, meet_behind_sp C.2.2.1]
abbrev meet_Next_Y0i : Type := List Diii × Int × Int
def meet_Next_S0i (v : meet_Next_Y0i) : St := ⟨[(0, .agg [.fz Riii v.1]), (1, .agg [.int .i64 v.2.1, .int .i64 v.2.2])], []⟩
abbrev meet_Next_Y0 : Type := List Diii × Int × Int × Int × Int × Int × Int
def meet_Next_S0 (v : meet_Next_Y0) : St := ⟨[(2, .ptr 0 0), (3, .ptr 1 0), (4, .ptr 2 0)], [.cells [.fz Riii v.1], .cells [.int .i64 v.2.1, .int .i64 v.2.2.1], .cells [.int .i64 v.2.2.2.1, .int .i64 v.2.2.2.2.1, .int .i64 v.2.2.2.2.2.1, .int .i64 v.2.2.2.2.2.2]]⟩
def meet_Next_r0 (C : meet_Next_C) (v : meet_Next_Y0i) : Dt meet_Next_Y0 := (Dt.ret (v.1, v.2.1, v.2.2, (0:Int), (0:Int), (0:Int), (0:Int)))
theorem meet_Next_g0 (C : meet_Next_C) (v : meet_Next_Y0i) : treg tysT (orc (meet_Next_tab C)) 31 (regO (bodyOf f10) 0) false [(2, (.box [.val Riii])), (3, .any), (4, .any)] (meet_Next_S0i v) some = (meet_Next_r0 C v).eval fun y => some (meet_Next_S0 y) := by kernel_rfl
abbrev meet_Next_Y1 : Type := Int × List Diii × Int × Int × Int × Int × Int × Int
def meet_Next_S1 (v : meet_Next_Y1) : St := ⟨[(2, .ptr 0 0), (3, .ptr 1 0), (4, .ptr 2 0), (6, .int .i64 v.1)], [.cells [.fz Riii v.2.1], .cells [.int .i64 v.2.2.1, .int .i64 v.2.2.2.1], .cells [.int .i64 v.2.2.2.2.1, .int .i64 v.2.2.2.2.2.1, .int .i64 v.2.2.2.2.2.2.1, .int .i64 v.2.2.2.2.2.2.2]]⟩
def meet_Next_r1 (C : meet_Next_C) (v : meet_Next_Y0) : Dt meet_Next_Y1 := (Dt.bnd (C.1 ((v.1, ()), (([(v.2.1, v.2.2.1, ())] : List Dii), ()), ())) fun r1 => (Dt.ret (r1, v.1, v.2.1, v.2.2.1, v.2.2.2.1, v.2.2.2.2.1, v.2.2.2.2.2.1, v.2.2.2.2.2.2)))
theorem meet_Next_g1 (C : meet_Next_C) (v : meet_Next_Y0) : treg tysT (orc (meet_Next_tab C)) 31 (regO (bodyOf f10) 1) false [(2, (.box [.val Riii])), (3, .any), (4, .any), (6, .any)] (meet_Next_S0 v) some = (meet_Next_r1 C v).eval fun y => some (meet_Next_S1 y) := by kernel_rfl
abbrev meet_Next_Y2 : Type := Int × Bool × List Diii × Int × Int × Int × Int × Int × Int
def meet_Next_S2 (v : meet_Next_Y2) : St := ⟨[(2, .ptr 0 0), (3, .ptr 1 0), (4, .ptr 2 0), (6, .int .i64 v.1), (14, .bool v.2.1)], [.cells [.fz Riii v.2.2.1], .cells [.int .i64 v.2.2.2.1, .int .i64 v.2.2.2.2.1], .cells [.int .i64 v.2.2.2.2.2.1, .int .i64 v.2.2.2.2.2.2.1, .int .i64 v.2.2.2.2.2.2.2.1, .int .i64 v.2.2.2.2.2.2.2.2]]⟩
def meet_Next_r2 (C : meet_Next_C) (v : meet_Next_Y1) : Dt meet_Next_Y2 := (Dt.ret (v.1, (v.1 != (0:Int)), v.2.1, v.2.2.1, v.2.2.2.1, v.2.2.2.2.1, v.2.2.2.2.2.1, v.2.2.2.2.2.2.1, v.2.2.2.2.2.2.2))
theorem meet_Next_g2 (C : meet_Next_C) (v : meet_Next_Y1) : treg tysT (orc (meet_Next_tab C)) 31 (regO (bodyOf f10) 2) false [(2, (.box [.val Riii])), (3, .any), (4, .any), (6, .any), (14, .any)] (meet_Next_S1 v) some = (meet_Next_r2 C v).eval fun y => some (meet_Next_S2 y) := by kernel_rfl
abbrev meet_Next_Y3 : Type := Int × Int × Int × Int × Int
def meet_Next_S3 (v : meet_Next_Y3) : St := ⟨[(4, .ptr 0 0), (5, .int .i64 v.1)], [.cells [.int .i64 v.2.1, .int .i64 v.2.2.1, .int .i64 v.2.2.2.1, .int .i64 v.2.2.2.2]]⟩
def meet_Next_r3 (C : meet_Next_C) (v : meet_Next_Y2) : Dt meet_Next_Y3 := (Dt.ret (v.1, (0:Int), (0:Int), (0:Int), (0:Int)))
theorem meet_Next_g3 (C : meet_Next_C) (v : meet_Next_Y2) : treg tysT (orc (meet_Next_tab C)) 31 (regO (bodyOf f10) 3) false [(4, .any), (5, .any)] (meet_Next_S2 v) some = (meet_Next_r3 C v).eval fun y => some (meet_Next_S3 y) := by kernel_rfl
abbrev meet_Next_Y4 : Type := Int × Int × Int × Int × Int × Int × List Diiii
def meet_Next_S4 (v : meet_Next_Y4) : St := ⟨[(3, .ptr 0 0), (4, .ptr 1 0), (7, .rs 2)], [.cells [.int .i64 v.1, .int .i64 v.2.1], .cells [.int .i64 v.2.2.1, .int .i64 v.2.2.2.1, .int .i64 v.2.2.2.2.1, .int .i64 v.2.2.2.2.2.1], .rows Riiii v.2.2.2.2.2.2]⟩
def meet_Next_r4 (C : meet_Next_C) (v : meet_Next_Y2) : Dt meet_Next_Y4 := (Dt.bnd (C.2.1 ((v.2.2.1, ()), ())) fun r1 => (Dt.ret (v.2.2.2.1, v.2.2.2.2.1, v.2.2.2.2.2.1, v.2.2.2.2.2.2.1, v.2.2.2.2.2.2.2.1, v.2.2.2.2.2.2.2.2, r1)))
theorem meet_Next_g4 (C : meet_Next_C) (v : meet_Next_Y2) : treg tysT (orc (meet_Next_tab C)) 31 (regO (bodyOf f10) 4) false [(3, .any), (4, .any), (7, (.own Riiii))] (meet_Next_S2 v) some = (meet_Next_r4 C v).eval fun y => some (meet_Next_S4 y) := by kernel_rfl
abbrev meet_Next_Y5 : Type := Int × Int × Int × Int × Int × List Diiii
def meet_Next_S5 (v : meet_Next_Y5) : St := ⟨[(4, .ptr 0 0), (7, .rs 1), (8, .int .i64 v.1)], [.cells [.int .i64 v.2.1, .int .i64 v.2.2.1, .int .i64 v.2.2.2.1, .int .i64 v.2.2.2.2.1], .rows Riiii v.2.2.2.2.2]⟩
def meet_Next_r5 (C : meet_Next_C) (v : meet_Next_Y4) : Dt meet_Next_Y5 := (Dt.bnd (C.2.2.1 ((v.2.2.2.2.2.2, ()), (v.1, v.2.1, ()), ())) fun r1 => (Dt.ret (r1, v.2.2.1, v.2.2.2.1, v.2.2.2.2.1, v.2.2.2.2.2.1, v.2.2.2.2.2.2)))
theorem meet_Next_g5 (C : meet_Next_C) (v : meet_Next_Y4) : treg tysT (orc (meet_Next_tab C)) 31 (regO (bodyOf f10) 5) false [(4, .any), (7, (.own Riiii)), (8, .any)] (meet_Next_S4 v) some = (meet_Next_r5 C v).eval fun y => some (meet_Next_S5 y) := by kernel_rfl
abbrev meet_Next_Y6 : Type := Int × Bool × Int × Int × Int × Int × List Diiii
def meet_Next_S6 (v : meet_Next_Y6) : St := ⟨[(4, .ptr 0 0), (7, .rs 1), (8, .int .i64 v.1), (25, .bool v.2.1)], [.cells [.int .i64 v.2.2.1, .int .i64 v.2.2.2.1, .int .i64 v.2.2.2.2.1, .int .i64 v.2.2.2.2.2.1], .rows Riiii v.2.2.2.2.2.2]⟩
def meet_Next_r6 (C : meet_Next_C) (v : meet_Next_Y5) : Dt meet_Next_Y6 := (Dt.ret (v.1, (v.1 == (List.length v.2.2.2.2.2 : Int)), v.2.1, v.2.2.1, v.2.2.2.1, v.2.2.2.2.1, v.2.2.2.2.2))
theorem meet_Next_g6 (C : meet_Next_C) (v : meet_Next_Y5) : treg tysT (orc (meet_Next_tab C)) 31 (regO (bodyOf f10) 6) false [(4, .any), (7, (.own Riiii)), (8, .any), (25, .any)] (meet_Next_S5 v) some = (meet_Next_r6 C v).eval fun y => some (meet_Next_S6 y) := by kernel_rfl
def meet_Next_r7 (C : meet_Next_C) (v : meet_Next_Y6) : Dt meet_Next_Y3 := (Dt.ret ((6:Int), (0:Int), (0:Int), (0:Int), (0:Int)))
theorem meet_Next_g7 (C : meet_Next_C) (v : meet_Next_Y6) : treg tysT (orc (meet_Next_tab C)) 31 (regO (bodyOf f10) 7) false [(4, .any), (5, .any)] (meet_Next_S6 v) some = (meet_Next_r7 C v).eval fun y => some (meet_Next_S3 y) := by kernel_rfl
def meet_Next_r8 (C : meet_Next_C) (v : meet_Next_Y6) : Dt meet_Next_Y3 := (Dt.ite (inB v.1 (List.length v.2.2.2.2.2.2)) (Dt.ret ((0:Int), (elt ziiii v.2.2.2.2.2.2 (v.1).toNat).1, (elt ziiii v.2.2.2.2.2.2 (v.1).toNat).2.1, (elt ziiii v.2.2.2.2.2.2 (v.1).toNat).2.2.1, (elt ziiii v.2.2.2.2.2.2 (v.1).toNat).2.2.2.1)) Dt.fail)
theorem meet_Next_g8 (C : meet_Next_C) (v : meet_Next_Y6) : treg tysT (orc (meet_Next_tab C)) 31 (regO (bodyOf f10) 8) false [(4, .any), (5, .any)] (meet_Next_S6 v) some = (meet_Next_r8 C v).eval fun y => some (meet_Next_S3 y) := by kernel_rfl
def F_meet_Next (d : Nat) (x : meet_Next_X) : Option meet_Next_R :=
  (meet_Next_r0 (meet_Next_K d) (x.1.1, x.2.1.1, x.2.1.2.1)).eval fun y0 =>
  (meet_Next_r1 (meet_Next_K d) y0).eval fun y1 =>
  (meet_Next_r2 (meet_Next_K d) y1).eval fun y2 =>
  bif y2.2.1 then ((meet_Next_r3 (meet_Next_K d) y2).eval fun y3 =>
  some (y3.2.1, y3.2.2.1, y3.2.2.2.1, y3.2.2.2.2, y3.1)) else ((meet_Next_r4 (meet_Next_K d) y2).eval fun y4 =>
  (meet_Next_r5 (meet_Next_K d) y4).eval fun y5 =>
  (meet_Next_r6 (meet_Next_K d) y5).eval fun y6 =>
  bif y6.2.1 then ((meet_Next_r7 (meet_Next_K d) y6).eval fun y7 =>
  some (y7.2.1, y7.2.2.1, y7.2.2.2.1, y7.2.2.2.2, y7.1)) else ((meet_Next_r8 (meet_Next_K d) y6).eval fun y8 =>
  some (y8.2.1, y8.2.2.1, y8.2.2.2.1, y8.2.2.2.2, y8.1)))
theorem meet_Next_cok (d : Nat) : COK prog (meet_Next_sp (F_meet_Next d)) := by
  have hm : prog.follows .mixedOrders = true := mixed
  have hT := tys
  have hC0 : OrcOK prog (orc (meet_Next_tab (meet_Next_K d))) := orc_ok (by
    intro S hS
    simp only [meet_Next_tab, List.mem_cons, List.not_mem_nil, or_false] at hS
    rcases hS with rfl | rfl | rfl
    · exact meet_check_cok d
    · exact meet_all_cok d
    · exact meet_behind_cok d)
  have hC : OrcOK prog (orc (meet_Next_tab (meet_Next_K d))) := hC0
  refine cok_of (c := bodyOf f10) (fn := f10) hT (by kernel_rfl) (by kernel_rfl) (by decide) fun x r h w0 φ0 Q hend => ?_
  replace h : F_meet_Next d x = some r := h
  unfold F_meet_Next at h
  show Run prog w0 φ0 31 (bodyOf f10) ⟨[(0, .agg [.fz Riii x.1.1]), (1, .agg [.int .i64 x.2.1.1, .int .i64 x.2.1.2.1])], []⟩ Q
  refine run_seq ?_
  refine run_reg hm hT hC (meet_Next_g0 (meet_Next_K d) (x.1.1, x.2.1.1, x.2.1.2.1)) h ?_
  intro y0 h
  refine cn_then ?_
  refine run_seq ?_
  refine run_seq ?_
  refine run_reg hm hT hC (meet_Next_g1 (meet_Next_K d) y0) h ?_
  intro y1 h
  refine cn_then ?_
  refine run_seq ?_
  refine run_reg hm hT hC (meet_Next_g2 (meet_Next_K d) y1) h ?_
  intro y2 h
  refine cn_then ?_
  refine run_cond (v := y2.2.1) (by kernel_rfl) h ?_ ?_
  ·
    intro h
    refine run_seq ?_
    refine run_reg hm hT hC (meet_Next_g3 (meet_Next_K d) y2) h ?_
    intro y3 h
    refine cn_then ?_
    refine run_ret ?_
    refine cn_then_ret ?_
    cases h
    exact (hend _ (by kernel_rfl)).2
  ·
    intro h
    refine run_skip ?_
    refine cn_then ?_
    refine run_seq ?_
    refine run_reg hm hT hC (meet_Next_g4 (meet_Next_K d) y2) h ?_
    intro y4 h
    refine cn_then ?_
    refine run_seq ?_
    refine run_reg hm hT hC (meet_Next_g5 (meet_Next_K d) y4) h ?_
    intro y5 h
    refine cn_then ?_
    refine run_seq ?_
    refine run_seq ?_
    refine run_reg hm hT hC (meet_Next_g6 (meet_Next_K d) y5) h ?_
    intro y6 h
    refine cn_then ?_
    refine run_cond (v := y6.2.1) (by kernel_rfl) h ?_ ?_
    ·
      intro h
      refine run_seq ?_
      refine run_reg hm hT hC (meet_Next_g7 (meet_Next_K d) y6) h ?_
      intro y7 h
      refine cn_then ?_
      refine run_ret ?_
      refine cn_then_ret ?_
      cases h
      exact (hend _ (by kernel_rfl)).2
    ·
      intro h
      refine run_skip ?_
      refine cn_then ?_
      refine run_seq ?_
      refine run_reg hm hT hC (meet_Next_g8 (meet_Next_K d) y6) h ?_
      intro y8 h
      refine cn_then ?_
      refine run_ret ?_
      cases h
      exact (hend _ (by kernel_rfl)).2
abbrev meet_Last_ps : List Pk := [.row RLiiiE true]
abbrev meet_Last_X : Type := DLiiiE × Unit
abbrev meet_Last_R : Type := Int × Int × Int
def meet_Last_enc (r : meet_Last_R) : LV × List Ob := (.tup [.agg [.int .i64 r.1, .int .i64 r.2.1], .int .i64 r.2.2], [])
def meet_Last_sp (F : meet_Last_X → Option meet_Last_R) : Go.Tx.Spec := ⟨6, meet_Last_ps, meet_Last_R, F, meet_Last_enc⟩
abbrev meet_Last_C : Type := (meet_check_X → Option meet_check_R) × (meet_all_X → Option meet_all_R) × Unit
def meet_Last_K (d : Nat) : meet_Last_C := (F_meet_check d, F_meet_all d, ())
def meet_Last_tab (C : meet_Last_C) : List Go.Tx.Spec := [meet_check_sp C.1, meet_all_sp C.2.1]
abbrev meet_Last_Y0i : Type := List Diii
def meet_Last_S0i (v : meet_Last_Y0i) : St := ⟨[(0, .agg [.fz Riii v])], []⟩
abbrev meet_Last_Y0 : Type := List Diii × Int × Int
def meet_Last_S0 (v : meet_Last_Y0) : St := ⟨[(1, .ptr 0 0), (2, .ptr 1 0)], [.cells [.fz Riii v.1], .cells [.int .i64 v.2.1, .int .i64 v.2.2]]⟩
def meet_Last_r0 (C : meet_Last_C) (v : meet_Last_Y0i) : Dt meet_Last_Y0 := (Dt.ret (v, (0:Int), (0:Int)))
theorem meet_Last_g0 (C : meet_Last_C) (v : meet_Last_Y0i) : treg tysT (orc (meet_Last_tab C)) 25 (regO (bodyOf f6) 0) false [(1, (.box [.val Riii])), (2, .any)] (meet_Last_S0i v) some = (meet_Last_r0 C v).eval fun y => some (meet_Last_S0 y) := by kernel_rfl
abbrev meet_Last_Y1 : Type := Int × List Diii × Int × Int
def meet_Last_S1 (v : meet_Last_Y1) : St := ⟨[(1, .ptr 0 0), (2, .ptr 1 0), (4, .int .i64 v.1)], [.cells [.fz Riii v.2.1], .cells [.int .i64 v.2.2.1, .int .i64 v.2.2.2]]⟩
def meet_Last_r1 (C : meet_Last_C) (v : meet_Last_Y0) : Dt meet_Last_Y1 := (Dt.bnd (C.1 ((v.1, ()), ([], ()), ())) fun r1 => (Dt.ret (r1, v.1, v.2.1, v.2.2)))
theorem meet_Last_g1 (C : meet_Last_C) (v : meet_Last_Y0) : treg tysT (orc (meet_Last_tab C)) 25 (regO (bodyOf f6) 1) false [(1, (.box [.val Riii])), (2, .any), (4, .any)] (meet_Last_S0 v) some = (meet_Last_r1 C v).eval fun y => some (meet_Last_S1 y) := by kernel_rfl
abbrev meet_Last_Y2 : Type := Int × Bool × List Diii × Int × Int
def meet_Last_S2 (v : meet_Last_Y2) : St := ⟨[(1, .ptr 0 0), (2, .ptr 1 0), (4, .int .i64 v.1), (9, .bool v.2.1)], [.cells [.fz Riii v.2.2.1], .cells [.int .i64 v.2.2.2.1, .int .i64 v.2.2.2.2]]⟩
def meet_Last_r2 (C : meet_Last_C) (v : meet_Last_Y1) : Dt meet_Last_Y2 := (Dt.ret (v.1, (v.1 != (0:Int)), v.2.1, v.2.2.1, v.2.2.2))
theorem meet_Last_g2 (C : meet_Last_C) (v : meet_Last_Y1) : treg tysT (orc (meet_Last_tab C)) 25 (regO (bodyOf f6) 2) false [(1, (.box [.val Riii])), (2, .any), (4, .any), (9, .any)] (meet_Last_S1 v) some = (meet_Last_r2 C v).eval fun y => some (meet_Last_S2 y) := by kernel_rfl
abbrev meet_Last_Y3 : Type := Int × Int × Int
def meet_Last_S3 (v : meet_Last_Y3) : St := ⟨[(2, .ptr 0 0), (3, .int .i64 v.1)], [.cells [.int .i64 v.2.1, .int .i64 v.2.2]]⟩
def meet_Last_r3 (C : meet_Last_C) (v : meet_Last_Y2) : Dt meet_Last_Y3 := (Dt.ret (v.1, (0:Int), (0:Int)))
theorem meet_Last_g3 (C : meet_Last_C) (v : meet_Last_Y2) : treg tysT (orc (meet_Last_tab C)) 25 (regO (bodyOf f6) 3) false [(2, .any), (3, .any)] (meet_Last_S2 v) some = (meet_Last_r3 C v).eval fun y => some (meet_Last_S3 y) := by kernel_rfl
abbrev meet_Last_Y4 : Type := Int × Int × List Diiii
def meet_Last_S4 (v : meet_Last_Y4) : St := ⟨[(2, .ptr 0 0), (5, .rs 1)], [.cells [.int .i64 v.1, .int .i64 v.2.1], .rows Riiii v.2.2]⟩
def meet_Last_r4 (C : meet_Last_C) (v : meet_Last_Y2) : Dt meet_Last_Y4 := (Dt.bnd (C.2.1 ((v.2.2.1, ()), ())) fun r1 => (Dt.ret (v.2.2.2.1, v.2.2.2.2, r1)))
theorem meet_Last_g4 (C : meet_Last_C) (v : meet_Last_Y2) : treg tysT (orc (meet_Last_tab C)) 25 (regO (bodyOf f6) 4) false [(2, .any), (5, (.own Riiii))] (meet_Last_S2 v) some = (meet_Last_r4 C v).eval fun y => some (meet_Last_S4 y) := by kernel_rfl
abbrev meet_Last_Y5 : Type := Bool × Int × Int × List Diiii
def meet_Last_S5 (v : meet_Last_Y5) : St := ⟨[(2, .ptr 0 0), (5, .rs 1), (16, .bool v.1)], [.cells [.int .i64 v.2.1, .int .i64 v.2.2.1], .rows Riiii v.2.2.2]⟩
def meet_Last_r5 (C : meet_Last_C) (v : meet_Last_Y4) : Dt meet_Last_Y5 := (Dt.ret (((List.length v.2.2 : Int) == (0:Int)), v.1, v.2.1, v.2.2))
theorem meet_Last_g5 (C : meet_Last_C) (v : meet_Last_Y4) : treg tysT (orc (meet_Last_tab C)) 25 (regO (bodyOf f6) 5) false [(2, .any), (5, (.own Riiii)), (16, .any)] (meet_Last_S4 v) some = (meet_Last_r5 C v).eval fun y => some (meet_Last_S5 y) := by kernel_rfl
def meet_Last_r6 (C : meet_Last_C) (v : meet_Last_Y5) : Dt meet_Last_Y3 := (Dt.ret ((6:Int), (0:Int), (0:Int)))
theorem meet_Last_g6 (C : meet_Last_C) (v : meet_Last_Y5) : treg tysT (orc (meet_Last_tab C)) 25 (regO (bodyOf f6) 6) false [(2, .any), (3, .any)] (meet_Last_S5 v) some = (meet_Last_r6 C v).eval fun y => some (meet_Last_S3 y) := by kernel_rfl
def meet_Last_r7 (C : meet_Last_C) (v : meet_Last_Y5) : Dt meet_Last_Y3 := (Dt.ite (inB (IntKind.wrap .i64 ((List.length v.2.2.2 : Int) - (1:Int))) (List.length v.2.2.2)) (Dt.ret ((0:Int), (elt ziiii v.2.2.2 ((IntKind.wrap .i64 ((List.length v.2.2.2 : Int) - (1:Int)))).toNat).1, (elt ziiii v.2.2.2 ((IntKind.wrap .i64 ((List.length v.2.2.2 : Int) - (1:Int)))).toNat).2.1)) Dt.fail)
theorem meet_Last_g7 (C : meet_Last_C) (v : meet_Last_Y5) : treg tysT (orc (meet_Last_tab C)) 25 (regO (bodyOf f6) 7) false [(2, .any), (3, .any)] (meet_Last_S5 v) some = (meet_Last_r7 C v).eval fun y => some (meet_Last_S3 y) := by kernel_rfl
def F_meet_Last (d : Nat) (x : meet_Last_X) : Option meet_Last_R :=
  (meet_Last_r0 (meet_Last_K d) x.1.1).eval fun y0 =>
  (meet_Last_r1 (meet_Last_K d) y0).eval fun y1 =>
  (meet_Last_r2 (meet_Last_K d) y1).eval fun y2 =>
  bif y2.2.1 then ((meet_Last_r3 (meet_Last_K d) y2).eval fun y3 =>
  some (y3.2.1, y3.2.2, y3.1)) else ((meet_Last_r4 (meet_Last_K d) y2).eval fun y4 =>
  (meet_Last_r5 (meet_Last_K d) y4).eval fun y5 =>
  bif y5.1 then ((meet_Last_r6 (meet_Last_K d) y5).eval fun y6 =>
  some (y6.2.1, y6.2.2, y6.1)) else ((meet_Last_r7 (meet_Last_K d) y5).eval fun y7 =>
  some (y7.2.1, y7.2.2, y7.1)))
theorem meet_Last_cok (d : Nat) : COK prog (meet_Last_sp (F_meet_Last d)) := by
  have hm : prog.follows .mixedOrders = true := mixed
  have hT := tys
  have hC0 : OrcOK prog (orc (meet_Last_tab (meet_Last_K d))) := orc_ok (by
    intro S hS
    simp only [meet_Last_tab, List.mem_cons, List.not_mem_nil, or_false] at hS
    rcases hS with rfl | rfl
    · exact meet_check_cok d
    · exact meet_all_cok d)
  have hC : OrcOK prog (orc (meet_Last_tab (meet_Last_K d))) := hC0
  refine cok_of (c := bodyOf f6) (fn := f6) hT (by kernel_rfl) (by kernel_rfl) (by decide) fun x r h w0 φ0 Q hend => ?_
  replace h : F_meet_Last d x = some r := h
  unfold F_meet_Last at h
  show Run prog w0 φ0 25 (bodyOf f6) ⟨[(0, .agg [.fz Riii x.1.1])], []⟩ Q
  refine run_seq ?_
  refine run_reg hm hT hC (meet_Last_g0 (meet_Last_K d) x.1.1) h ?_
  intro y0 h
  refine cn_then ?_
  refine run_seq ?_
  refine run_seq ?_
  refine run_reg hm hT hC (meet_Last_g1 (meet_Last_K d) y0) h ?_
  intro y1 h
  refine cn_then ?_
  refine run_seq ?_
  refine run_reg hm hT hC (meet_Last_g2 (meet_Last_K d) y1) h ?_
  intro y2 h
  refine cn_then ?_
  refine run_cond (v := y2.2.1) (by kernel_rfl) h ?_ ?_
  ·
    intro h
    refine run_seq ?_
    refine run_reg hm hT hC (meet_Last_g3 (meet_Last_K d) y2) h ?_
    intro y3 h
    refine cn_then ?_
    refine run_ret ?_
    refine cn_then_ret ?_
    cases h
    exact (hend _ (by kernel_rfl)).2
  ·
    intro h
    refine run_skip ?_
    refine cn_then ?_
    refine run_seq ?_
    refine run_reg hm hT hC (meet_Last_g4 (meet_Last_K d) y2) h ?_
    intro y4 h
    refine cn_then ?_
    refine run_seq ?_
    refine run_seq ?_
    refine run_reg hm hT hC (meet_Last_g5 (meet_Last_K d) y4) h ?_
    intro y5 h
    refine cn_then ?_
    refine run_cond (v := y5.1) (by kernel_rfl) h ?_ ?_
    ·
      intro h
      refine run_seq ?_
      refine run_reg hm hT hC (meet_Last_g6 (meet_Last_K d) y5) h ?_
      intro y6 h
      refine cn_then ?_
      refine run_ret ?_
      refine cn_then_ret ?_
      cases h
      exact (hend _ (by kernel_rfl)).2
    ·
      intro h
      refine run_skip ?_
      refine cn_then ?_
      refine run_seq ?_
      refine run_reg hm hT hC (meet_Last_g7 (meet_Last_K d) y5) h ?_
      intro y7 h
      refine cn_then ?_
      refine run_ret ?_
      cases h
      exact (hend _ (by kernel_rfl)).2
end Go.Proofs.YthopjgahedijcaaGreat

namespace Go.Proofs.YthopjgahedijcaaGreat
open Go Go.Tx Go.Proofs.Tryz
set_option maxRecDepth 100000
set_option maxHeartbeats 0
abbrev ref01_Sign_ps : List Pk := [.row Rbuu true]
abbrev ref01_Sign_X : Type := Dbuu × Unit
abbrev ref01_Sign_R : Type := Int
def ref01_Sign_enc (r : ref01_Sign_R) : LV × List Ob := (.int .i64 r, [])
def ref01_Sign_sp (F : ref01_Sign_X → Option ref01_Sign_R) : Go.Tx.Spec := ⟨26, ref01_Sign_ps, ref01_Sign_R, F, ref01_Sign_enc⟩
abbrev ref01_Sign_C : Type := Unit
def ref01_Sign_K (_d : Nat) : ref01_Sign_C := ()
def ref01_Sign_tab (C : ref01_Sign_C) : List Go.Tx.Spec := []
abbrev ref01_Sign_Y0i : Type := Bool × Int × Int
def ref01_Sign_S0i (v : ref01_Sign_Y0i) : St := ⟨[(0, .agg [.bool v.1, .int .u64 v.2.1, .int .u64 v.2.2])], []⟩
abbrev ref01_Sign_Y0 : Type := Bool × Int × Int
def ref01_Sign_S0 (v : ref01_Sign_Y0) : St := ⟨[(1, .ptr 0 0)], [.cells [.bool v.1, .int .u64 v.2.1, .int .u64 v.2.2]]⟩
def ref01_Sign_r0 (C : ref01_Sign_C) (v : ref01_Sign_Y0i) : Dt ref01_Sign_Y0 := (Dt.ret (v.1, v.2.1, v.2.2))
theorem ref01_Sign_g0 (C : ref01_Sign_C) (v : ref01_Sign_Y0i) : treg tysT (orc (ref01_Sign_tab C)) 13 (regO (bodyOf f26) 0) false [(1, .any)] (ref01_Sign_S0i v) some = (ref01_Sign_r0 C v).eval fun y => some (ref01_Sign_S0 y) := by kernel_rfl
abbrev ref01_Sign_Y1 : Type := Bool × Bool × Int × Int
def ref01_Sign_S1 (v : ref01_Sign_Y1) : St := ⟨[(1, .ptr 0 0), (10, .bool v.1)], [.cells [.bool v.2.1, .int .u64 v.2.2.1, .int .u64 v.2.2.2]]⟩
def ref01_Sign_r1 (C : ref01_Sign_C) (v : ref01_Sign_Y0) : Dt ref01_Sign_Y1 := (Dt.ite (v.2.1 == (0:Int)) (Dt.ret ((v.2.2 == (0:Int)), v.1, v.2.1, v.2.2)) (Dt.ret (false, v.1, v.2.1, v.2.2)))
theorem ref01_Sign_g1 (C : ref01_Sign_C) (v : ref01_Sign_Y0) : treg tysT (orc (ref01_Sign_tab C)) 13 (regO (bodyOf f26) 1) false [(1, .any), (10, .any)] (ref01_Sign_S0 v) some = (ref01_Sign_r1 C v).eval fun y => some (ref01_Sign_S1 y) := by kernel_rfl
abbrev ref01_Sign_Y2 : Type := Int
def ref01_Sign_S2 (v : ref01_Sign_Y2) : St := ⟨[(2, .int .i64 v)], []⟩
def ref01_Sign_r2 (C : ref01_Sign_C) (v : ref01_Sign_Y1) : Dt ref01_Sign_Y2 := (Dt.ret (0:Int))
theorem ref01_Sign_g2 (C : ref01_Sign_C) (v : ref01_Sign_Y1) : treg tysT (orc (ref01_Sign_tab C)) 13 (regO (bodyOf f26) 2) false [(2, .any)] (ref01_Sign_S1 v) some = (ref01_Sign_r2 C v).eval fun y => some (ref01_Sign_S2 y) := by kernel_rfl
abbrev ref01_Sign_Y3 : Type := Bool
def ref01_Sign_S3 (v : ref01_Sign_Y3) : St := ⟨[(12, .bool v)], []⟩
def ref01_Sign_r3 (C : ref01_Sign_C) (v : ref01_Sign_Y1) : Dt ref01_Sign_Y3 := (Dt.ret v.2.1)
theorem ref01_Sign_g3 (C : ref01_Sign_C) (v : ref01_Sign_Y1) : treg tysT (orc (ref01_Sign_tab C)) 13 (regO (bodyOf f26) 3) false [(12, .any)] (ref01_Sign_S1 v) some = (ref01_Sign_r3 C v).eval fun y => some (ref01_Sign_S3 y) := by kernel_rfl
def ref01_Sign_r4 (C : ref01_Sign_C) (v : ref01_Sign_Y3) : Dt ref01_Sign_Y2 := (Dt.ret (-1:Int))
theorem ref01_Sign_g4 (C : ref01_Sign_C) (v : ref01_Sign_Y3) : treg tysT (orc (ref01_Sign_tab C)) 13 (regO (bodyOf f26) 4) false [(2, .any)] (ref01_Sign_S3 v) some = (ref01_Sign_r4 C v).eval fun y => some (ref01_Sign_S2 y) := by kernel_rfl
def ref01_Sign_r5 (C : ref01_Sign_C) (v : ref01_Sign_Y3) : Dt ref01_Sign_Y2 := (Dt.ret (1:Int))
theorem ref01_Sign_g5 (C : ref01_Sign_C) (v : ref01_Sign_Y3) : treg tysT (orc (ref01_Sign_tab C)) 13 (regO (bodyOf f26) 5) false [(2, .any)] (ref01_Sign_S3 v) some = (ref01_Sign_r5 C v).eval fun y => some (ref01_Sign_S2 y) := by kernel_rfl
def F_ref01_Sign (d : Nat) (x : ref01_Sign_X) : Option ref01_Sign_R :=
  (ref01_Sign_r0 (ref01_Sign_K d) (x.1.1, x.1.2.1, x.1.2.2.1)).eval fun y0 =>
  (ref01_Sign_r1 (ref01_Sign_K d) y0).eval fun y1 =>
  bif y1.1 then ((ref01_Sign_r2 (ref01_Sign_K d) y1).eval fun y2 =>
  some y2) else ((ref01_Sign_r3 (ref01_Sign_K d) y1).eval fun y3 =>
  bif y3 then ((ref01_Sign_r4 (ref01_Sign_K d) y3).eval fun y4 =>
  some y4) else ((ref01_Sign_r5 (ref01_Sign_K d) y3).eval fun y5 =>
  some y5))
theorem ref01_Sign_cok (d : Nat) : COK prog (ref01_Sign_sp (F_ref01_Sign d)) := by
  have hm : prog.follows .mixedOrders = true := mixed
  have hT := tys
  have hC0 : OrcOK prog (orc (ref01_Sign_tab (ref01_Sign_K d))) := orc_ok (by
    intro S hS
    simp only [ref01_Sign_tab, List.mem_cons, List.not_mem_nil, or_false] at hS
    all_goals first | cases hS | exact hS.elim)
  have hC : OrcOK prog (orc (ref01_Sign_tab (ref01_Sign_K d))) := hC0
  refine cok_of (c := bodyOf f26) (fn := f26) hT (by kernel_rfl) (by kernel_rfl) (by decide) fun x r h w0 φ0 Q hend => ?_
  replace h : F_ref01_Sign d x = some r := h
  unfold F_ref01_Sign at h
  show Run prog w0 φ0 13 (bodyOf f26) ⟨[(0, .agg [.bool x.1.1, .int .u64 x.1.2.1, .int .u64 x.1.2.2.1])], []⟩ Q
  refine run_seq ?_
  refine run_reg hm hT hC (ref01_Sign_g0 (ref01_Sign_K d) (x.1.1, x.1.2.1, x.1.2.2.1)) h ?_
  intro y0 h
  refine cn_then ?_
  refine run_seq ?_
  refine run_seq ?_
  refine run_reg hm hT hC (ref01_Sign_g1 (ref01_Sign_K d) y0) h ?_
  intro y1 h
  refine cn_then ?_
  refine run_cond (v := y1.1) (by kernel_rfl) h ?_ ?_
  ·
    intro h
    refine run_seq ?_
    refine run_reg hm hT hC (ref01_Sign_g2 (ref01_Sign_K d) y1) h ?_
    intro y2 h
    refine cn_then ?_
    refine run_ret ?_
    refine cn_then_ret ?_
    cases h
    exact (hend _ (by kernel_rfl)).2
  ·
    intro h
    refine run_skip ?_
    refine cn_then ?_
    refine run_seq ?_
    refine run_seq ?_
    refine run_reg hm hT hC (ref01_Sign_g3 (ref01_Sign_K d) y1) h ?_
    intro y3 h
    refine cn_then ?_
    refine run_cond (v := y3) (by kernel_rfl) h ?_ ?_
    ·
      intro h
      refine run_seq ?_
      refine run_reg hm hT hC (ref01_Sign_g4 (ref01_Sign_K d) y3) h ?_
      intro y4 h
      refine cn_then ?_
      refine run_ret ?_
      refine cn_then_ret ?_
      cases h
      exact (hend _ (by kernel_rfl)).2
    ·
      intro h
      refine run_skip ?_
      refine cn_then ?_
      refine run_seq ?_
      refine run_reg hm hT hC (ref01_Sign_g5 (ref01_Sign_K d) y3) h ?_
      intro y5 h
      refine cn_then ?_
      refine run_ret ?_
      cases h
      exact (hend _ (by kernel_rfl)).2
abbrev ref01_less_ps : List Pk := [.row Rbuu true, .row Rbuu true]
abbrev ref01_less_X : Type := Dbuu × Dbuu × Unit
abbrev ref01_less_R : Type := Int
def ref01_less_enc (r : ref01_less_R) : LV × List Ob := (.int .i64 r, [])
def ref01_less_sp (F : ref01_less_X → Option ref01_less_R) : Go.Tx.Spec := ⟨27, ref01_less_ps, ref01_less_R, F, ref01_less_enc⟩
abbrev ref01_less_C : Type := Unit
def ref01_less_K (_d : Nat) : ref01_less_C := ()
def ref01_less_tab (C : ref01_less_C) : List Go.Tx.Spec := []
abbrev ref01_less_Y0i : Type := Bool × Int × Int × Bool × Int × Int
def ref01_less_S0i (v : ref01_less_Y0i) : St := ⟨[(0, .agg [.bool v.1, .int .u64 v.2.1, .int .u64 v.2.2.1]), (1, .agg [.bool v.2.2.2.1, .int .u64 v.2.2.2.2.1, .int .u64 v.2.2.2.2.2])], []⟩
abbrev ref01_less_Y0 : Type := Bool × Int × Int × Bool × Int × Int
def ref01_less_S0 (v : ref01_less_Y0) : St := ⟨[(2, .ptr 0 0), (3, .ptr 1 0)], [.cells [.bool v.1, .int .u64 v.2.1, .int .u64 v.2.2.1], .cells [.bool v.2.2.2.1, .int .u64 v.2.2.2.2.1, .int .u64 v.2.2.2.2.2]]⟩
def ref01_less_r0 (C : ref01_less_C) (v : ref01_less_Y0i) : Dt ref01_less_Y0 := (Dt.ret (v.1, v.2.1, v.2.2.1, v.2.2.2.1, v.2.2.2.2.1, v.2.2.2.2.2))
theorem ref01_less_g0 (C : ref01_less_C) (v : ref01_less_Y0i) : treg tysT (orc (ref01_less_tab C)) 25 (regO (bodyOf f27) 0) false [(2, .any), (3, .any)] (ref01_less_S0i v) some = (ref01_less_r0 C v).eval fun y => some (ref01_less_S0 y) := by kernel_rfl
abbrev ref01_less_Y1 : Type := Bool × Bool × Int × Int × Bool × Int × Int
def ref01_less_S1 (v : ref01_less_Y1) : St := ⟨[(2, .ptr 0 0), (3, .ptr 1 0), (9, .bool v.1)], [.cells [.bool v.2.1, .int .u64 v.2.2.1, .int .u64 v.2.2.2.1], .cells [.bool v.2.2.2.2.1, .int .u64 v.2.2.2.2.2.1, .int .u64 v.2.2.2.2.2.2]]⟩
def ref01_less_r1 (C : ref01_less_C) (v : ref01_less_Y0) : Dt ref01_less_Y1 := (Dt.ret ((v.2.1 != v.2.2.2.2.1), v.1, v.2.1, v.2.2.1, v.2.2.2.1, v.2.2.2.2.1, v.2.2.2.2.2))
theorem ref01_less_g1 (C : ref01_less_C) (v : ref01_less_Y0) : treg tysT (orc (ref01_less_tab C)) 25 (regO (bodyOf f27) 1) false [(2, .any), (3, .any), (9, .any)] (ref01_less_S0 v) some = (ref01_less_r1 C v).eval fun y => some (ref01_less_S1 y) := by kernel_rfl
abbrev ref01_less_Y2 : Type := Bool
def ref01_less_S2 (v : ref01_less_Y2) : St := ⟨[(14, .bool v)], []⟩
def ref01_less_r2 (C : ref01_less_C) (v : ref01_less_Y1) : Dt ref01_less_Y2 := (Dt.ret (decide (v.2.2.1 < v.2.2.2.2.2.1)))
theorem ref01_less_g2 (C : ref01_less_C) (v : ref01_less_Y1) : treg tysT (orc (ref01_less_tab C)) 25 (regO (bodyOf f27) 2) false [(14, .any)] (ref01_less_S1 v) some = (ref01_less_r2 C v).eval fun y => some (ref01_less_S2 y) := by kernel_rfl
abbrev ref01_less_Y3 : Type := Int
def ref01_less_S3 (v : ref01_less_Y3) : St := ⟨[(4, .int .i64 v)], []⟩
def ref01_less_r3 (C : ref01_less_C) (v : ref01_less_Y2) : Dt ref01_less_Y3 := (Dt.ret (-1:Int))
theorem ref01_less_g3 (C : ref01_less_C) (v : ref01_less_Y2) : treg tysT (orc (ref01_less_tab C)) 25 (regO (bodyOf f27) 3) false [(4, .any)] (ref01_less_S2 v) some = (ref01_less_r3 C v).eval fun y => some (ref01_less_S3 y) := by kernel_rfl
def ref01_less_r4 (C : ref01_less_C) (v : ref01_less_Y2) : Dt ref01_less_Y3 := (Dt.ret (1:Int))
theorem ref01_less_g4 (C : ref01_less_C) (v : ref01_less_Y2) : treg tysT (orc (ref01_less_tab C)) 25 (regO (bodyOf f27) 4) false [(4, .any)] (ref01_less_S2 v) some = (ref01_less_r4 C v).eval fun y => some (ref01_less_S3 y) := by kernel_rfl
abbrev ref01_less_Y5 : Type := Bool × Bool × Int × Int × Bool × Int × Int
def ref01_less_S5 (v : ref01_less_Y5) : St := ⟨[(2, .ptr 0 0), (3, .ptr 1 0), (19, .bool v.1)], [.cells [.bool v.2.1, .int .u64 v.2.2.1, .int .u64 v.2.2.2.1], .cells [.bool v.2.2.2.2.1, .int .u64 v.2.2.2.2.2.1, .int .u64 v.2.2.2.2.2.2]]⟩
def ref01_less_r5 (C : ref01_less_C) (v : ref01_less_Y1) : Dt ref01_less_Y5 := (Dt.ret ((v.2.2.2.1 != v.2.2.2.2.2.2), v.2.1, v.2.2.1, v.2.2.2.1, v.2.2.2.2.1, v.2.2.2.2.2.1, v.2.2.2.2.2.2))
theorem ref01_less_g5 (C : ref01_less_C) (v : ref01_less_Y1) : treg tysT (orc (ref01_less_tab C)) 25 (regO (bodyOf f27) 5) false [(2, .any), (3, .any), (19, .any)] (ref01_less_S1 v) some = (ref01_less_r5 C v).eval fun y => some (ref01_less_S5 y) := by kernel_rfl
abbrev ref01_less_Y6 : Type := Bool
def ref01_less_S6 (v : ref01_less_Y6) : St := ⟨[(24, .bool v)], []⟩
def ref01_less_r6 (C : ref01_less_C) (v : ref01_less_Y5) : Dt ref01_less_Y6 := (Dt.ret (decide (v.2.2.2.1 < v.2.2.2.2.2.2)))
theorem ref01_less_g6 (C : ref01_less_C) (v : ref01_less_Y5) : treg tysT (orc (ref01_less_tab C)) 25 (regO (bodyOf f27) 6) false [(24, .any)] (ref01_less_S5 v) some = (ref01_less_r6 C v).eval fun y => some (ref01_less_S6 y) := by kernel_rfl
def ref01_less_r7 (C : ref01_less_C) (v : ref01_less_Y6) : Dt ref01_less_Y3 := (Dt.ret (-1:Int))
theorem ref01_less_g7 (C : ref01_less_C) (v : ref01_less_Y6) : treg tysT (orc (ref01_less_tab C)) 25 (regO (bodyOf f27) 7) false [(4, .any)] (ref01_less_S6 v) some = (ref01_less_r7 C v).eval fun y => some (ref01_less_S3 y) := by kernel_rfl
def ref01_less_r8 (C : ref01_less_C) (v : ref01_less_Y6) : Dt ref01_less_Y3 := (Dt.ret (1:Int))
theorem ref01_less_g8 (C : ref01_less_C) (v : ref01_less_Y6) : treg tysT (orc (ref01_less_tab C)) 25 (regO (bodyOf f27) 8) false [(4, .any)] (ref01_less_S6 v) some = (ref01_less_r8 C v).eval fun y => some (ref01_less_S3 y) := by kernel_rfl
def ref01_less_r9 (C : ref01_less_C) (v : ref01_less_Y5) : Dt ref01_less_Y3 := (Dt.ret (0:Int))
theorem ref01_less_g9 (C : ref01_less_C) (v : ref01_less_Y5) : treg tysT (orc (ref01_less_tab C)) 25 (regO (bodyOf f27) 9) false [(4, .any)] (ref01_less_S5 v) some = (ref01_less_r9 C v).eval fun y => some (ref01_less_S3 y) := by kernel_rfl
def F_ref01_less (d : Nat) (x : ref01_less_X) : Option ref01_less_R :=
  (ref01_less_r0 (ref01_less_K d) (x.1.1, x.1.2.1, x.1.2.2.1, x.2.1.1, x.2.1.2.1, x.2.1.2.2.1)).eval fun y0 =>
  (ref01_less_r1 (ref01_less_K d) y0).eval fun y1 =>
  bif y1.1 then ((ref01_less_r2 (ref01_less_K d) y1).eval fun y2 =>
  bif y2 then ((ref01_less_r3 (ref01_less_K d) y2).eval fun y3 =>
  some y3) else ((ref01_less_r4 (ref01_less_K d) y2).eval fun y4 =>
  some y4)) else ((ref01_less_r5 (ref01_less_K d) y1).eval fun y5 =>
  bif y5.1 then ((ref01_less_r6 (ref01_less_K d) y5).eval fun y6 =>
  bif y6 then ((ref01_less_r7 (ref01_less_K d) y6).eval fun y7 =>
  some y7) else ((ref01_less_r8 (ref01_less_K d) y6).eval fun y8 =>
  some y8)) else ((ref01_less_r9 (ref01_less_K d) y5).eval fun y9 =>
  some y9))
theorem ref01_less_cok (d : Nat) : COK prog (ref01_less_sp (F_ref01_less d)) := by
  have hm : prog.follows .mixedOrders = true := mixed
  have hT := tys
  have hC0 : OrcOK prog (orc (ref01_less_tab (ref01_less_K d))) := orc_ok (by
    intro S hS
    simp only [ref01_less_tab, List.mem_cons, List.not_mem_nil, or_false] at hS
    all_goals first | cases hS | exact hS.elim)
  have hC : OrcOK prog (orc (ref01_less_tab (ref01_less_K d))) := hC0
  refine cok_of (c := bodyOf f27) (fn := f27) hT (by kernel_rfl) (by kernel_rfl) (by decide) fun x r h w0 φ0 Q hend => ?_
  replace h : F_ref01_less d x = some r := h
  unfold F_ref01_less at h
  show Run prog w0 φ0 25 (bodyOf f27) ⟨[(0, .agg [.bool x.1.1, .int .u64 x.1.2.1, .int .u64 x.1.2.2.1]), (1, .agg [.bool x.2.1.1, .int .u64 x.2.1.2.1, .int .u64 x.2.1.2.2.1])], []⟩ Q
  refine run_seq ?_
  refine run_reg hm hT hC (ref01_less_g0 (ref01_less_K d) (x.1.1, x.1.2.1, x.1.2.2.1, x.2.1.1, x.2.1.2.1, x.2.1.2.2.1)) h ?_
  intro y0 h
  refine cn_then ?_
  refine run_seq ?_
  refine run_seq ?_
  refine run_reg hm hT hC (ref01_less_g1 (ref01_less_K d) y0) h ?_
  intro y1 h
  refine cn_then ?_
  refine run_cond (v := y1.1) (by kernel_rfl) h ?_ ?_
  ·
    intro h
    refine run_seq ?_
    refine run_seq ?_
    refine run_reg hm hT hC (ref01_less_g2 (ref01_less_K d) y1) h ?_
    intro y2 h
    refine cn_then ?_
    refine run_cond (v := y2) (by kernel_rfl) h ?_ ?_
    ·
      intro h
      refine run_seq ?_
      refine run_reg hm hT hC (ref01_less_g3 (ref01_less_K d) y2) h ?_
      intro y3 h
      refine cn_then ?_
      refine run_ret ?_
      refine cn_then_ret ?_
      refine cn_then_ret ?_
      cases h
      exact (hend _ (by kernel_rfl)).2
    ·
      intro h
      refine run_skip ?_
      refine cn_then ?_
      refine run_seq ?_
      refine run_reg hm hT hC (ref01_less_g4 (ref01_less_K d) y2) h ?_
      intro y4 h
      refine cn_then ?_
      refine run_ret ?_
      refine cn_then_ret ?_
      cases h
      exact (hend _ (by kernel_rfl)).2
  ·
    intro h
    refine run_skip ?_
    refine cn_then ?_
    refine run_seq ?_
    refine run_seq ?_
    refine run_reg hm hT hC (ref01_less_g5 (ref01_less_K d) y1) h ?_
    intro y5 h
    refine cn_then ?_
    refine run_cond (v := y5.1) (by kernel_rfl) h ?_ ?_
    ·
      intro h
      refine run_seq ?_
      refine run_seq ?_
      refine run_reg hm hT hC (ref01_less_g6 (ref01_less_K d) y5) h ?_
      intro y6 h
      refine cn_then ?_
      refine run_cond (v := y6) (by kernel_rfl) h ?_ ?_
      ·
        intro h
        refine run_seq ?_
        refine run_reg hm hT hC (ref01_less_g7 (ref01_less_K d) y6) h ?_
        intro y7 h
        refine cn_then ?_
        refine run_ret ?_
        refine cn_then_ret ?_
        refine cn_then_ret ?_
        cases h
        exact (hend _ (by kernel_rfl)).2
      ·
        intro h
        refine run_skip ?_
        refine cn_then ?_
        refine run_seq ?_
        refine run_reg hm hT hC (ref01_less_g8 (ref01_less_K d) y6) h ?_
        intro y8 h
        refine cn_then ?_
        refine run_ret ?_
        refine cn_then_ret ?_
        cases h
        exact (hend _ (by kernel_rfl)).2
    ·
      intro h
      refine run_skip ?_
      refine cn_then ?_
      refine run_seq ?_
      refine run_reg hm hT hC (ref01_less_g9 (ref01_less_K d) y5) h ?_
      intro y9 h
      refine cn_then ?_
      refine run_ret ?_
      cases h
      exact (hend _ (by kernel_rfl)).2
abbrev ref01_Compare_ps : List Pk := [.row Rii true, .row Rii true]
abbrev ref01_Compare_X : Type := Dii × Dii × Unit
abbrev ref01_Compare_R : Type := Int
def ref01_Compare_enc (r : ref01_Compare_R) : LV × List Ob := (.int .i64 r, [])
def ref01_Compare_sp (F : ref01_Compare_X → Option ref01_Compare_R) : Go.Tx.Spec := ⟨11, ref01_Compare_ps, ref01_Compare_R, F, ref01_Compare_enc⟩
abbrev ref01_Compare_C : Type := (ref01_Product_X → Option ref01_Product_R) × (ref01_Sign_X → Option ref01_Sign_R) × (ref01_less_X → Option ref01_less_R) × Unit
def ref01_Compare_K (d : Nat) : ref01_Compare_C := (F_ref01_Product d, F_ref01_Sign d, F_ref01_less d, ())
def ref01_Compare_tab (C : ref01_Compare_C) : List Go.Tx.Spec := [ref01_Product_sp C.1, ref01_Sign_sp C.2.1, ref01_less_sp C.2.2.1]
abbrev ref01_Compare_Y0i : Type := Int × Int × Int × Int
def ref01_Compare_S0i (v : ref01_Compare_Y0i) : St := ⟨[(0, .agg [.int .i64 v.1, .int .i64 v.2.1]), (1, .agg [.int .i64 v.2.2.1, .int .i64 v.2.2.2])], []⟩
abbrev ref01_Compare_Y0 : Type := Int × Int × Int × Int
def ref01_Compare_S0 (v : ref01_Compare_Y0) : St := ⟨[(2, .ptr 0 0), (3, .ptr 1 0)], [.cells [.int .i64 v.1, .int .i64 v.2.1], .cells [.int .i64 v.2.2.1, .int .i64 v.2.2.2]]⟩
def ref01_Compare_r0 (C : ref01_Compare_C) (v : ref01_Compare_Y0i) : Dt ref01_Compare_Y0 := (Dt.ret (v.1, v.2.1, v.2.2.1, v.2.2.2))
theorem ref01_Compare_g0 (C : ref01_Compare_C) (v : ref01_Compare_Y0i) : treg tysT (orc (ref01_Compare_tab C)) 36 (regO (bodyOf f11) 0) false [(2, .any), (3, .any)] (ref01_Compare_S0i v) some = (ref01_Compare_r0 C v).eval fun y => some (ref01_Compare_S0 y) := by kernel_rfl
abbrev ref01_Compare_Y1 : Type := Bool × Int × Int × Bool × Int × Int
def ref01_Compare_S1 (v : ref01_Compare_Y1) : St := ⟨[(5, .ptr 0 0), (6, .ptr 1 0)], [.cells [.bool v.1, .int .u64 v.2.1, .int .u64 v.2.2.1], .cells [.bool v.2.2.2.1, .int .u64 v.2.2.2.2.1, .int .u64 v.2.2.2.2.2]]⟩
def ref01_Compare_r1 (C : ref01_Compare_C) (v : ref01_Compare_Y0) : Dt ref01_Compare_Y1 := (Dt.bnd (C.1 ((v.1, ()), (v.2.2.2, ()), ())) fun r1 => (Dt.bnd (C.1 ((v.2.2.1, ()), (v.2.1, ()), ())) fun r2 => (Dt.ret (r1.1, r1.2.1, r1.2.2, r2.1, r2.2.1, r2.2.2))))
theorem ref01_Compare_g1 (C : ref01_Compare_C) (v : ref01_Compare_Y0) : treg tysT (orc (ref01_Compare_tab C)) 36 (regO (bodyOf f11) 1) true [(5, .any), (6, .any)] (ref01_Compare_S0 v) some = (ref01_Compare_r1 C v).eval fun y => some (ref01_Compare_S1 y) := by kernel_rfl
abbrev ref01_Compare_Y2 : Type := Bool × Bool × Int × Int × Bool × Int × Int
def ref01_Compare_S2 (v : ref01_Compare_Y2) : St := ⟨[(5, .ptr 0 0), (6, .ptr 1 0), (21, .bool v.1)], [.cells [.bool v.2.1, .int .u64 v.2.2.1, .int .u64 v.2.2.2.1], .cells [.bool v.2.2.2.2.1, .int .u64 v.2.2.2.2.2.1, .int .u64 v.2.2.2.2.2.2]]⟩
def ref01_Compare_r2 (C : ref01_Compare_C) (v : ref01_Compare_Y1) : Dt ref01_Compare_Y2 := (Dt.bnd (C.2.1 ((v.1, v.2.1, v.2.2.1, ()), ())) fun r1 => (Dt.bnd (C.2.1 ((v.2.2.2.1, v.2.2.2.2.1, v.2.2.2.2.2, ()), ())) fun r2 => (Dt.ret ((r1 != r2), v.1, v.2.1, v.2.2.1, v.2.2.2.1, v.2.2.2.2.1, v.2.2.2.2.2))))
theorem ref01_Compare_g2 (C : ref01_Compare_C) (v : ref01_Compare_Y1) : treg tysT (orc (ref01_Compare_tab C)) 36 (regO (bodyOf f11) 2) true [(5, .any), (6, .any), (21, .any)] (ref01_Compare_S1 v) some = (ref01_Compare_r2 C v).eval fun y => some (ref01_Compare_S2 y) := by kernel_rfl
abbrev ref01_Compare_Y3 : Type := Bool
def ref01_Compare_S3 (v : ref01_Compare_Y3) : St := ⟨[(26, .bool v)], []⟩
def ref01_Compare_r3 (C : ref01_Compare_C) (v : ref01_Compare_Y2) : Dt ref01_Compare_Y3 := (Dt.bnd (C.2.1 ((v.2.1, v.2.2.1, v.2.2.2.1, ()), ())) fun r1 => (Dt.bnd (C.2.1 ((v.2.2.2.2.1, v.2.2.2.2.2.1, v.2.2.2.2.2.2, ()), ())) fun r2 => (Dt.ret (decide (r1 < r2)))))
theorem ref01_Compare_g3 (C : ref01_Compare_C) (v : ref01_Compare_Y2) : treg tysT (orc (ref01_Compare_tab C)) 36 (regO (bodyOf f11) 3) true [(26, .any)] (ref01_Compare_S2 v) some = (ref01_Compare_r3 C v).eval fun y => some (ref01_Compare_S3 y) := by kernel_rfl
abbrev ref01_Compare_Y4 : Type := Int
def ref01_Compare_S4 (v : ref01_Compare_Y4) : St := ⟨[(4, .int .i64 v)], []⟩
def ref01_Compare_r4 (C : ref01_Compare_C) (v : ref01_Compare_Y3) : Dt ref01_Compare_Y4 := (Dt.ret (-1:Int))
theorem ref01_Compare_g4 (C : ref01_Compare_C) (v : ref01_Compare_Y3) : treg tysT (orc (ref01_Compare_tab C)) 36 (regO (bodyOf f11) 4) false [(4, .any)] (ref01_Compare_S3 v) some = (ref01_Compare_r4 C v).eval fun y => some (ref01_Compare_S4 y) := by kernel_rfl
def ref01_Compare_r5 (C : ref01_Compare_C) (v : ref01_Compare_Y3) : Dt ref01_Compare_Y4 := (Dt.ret (1:Int))
theorem ref01_Compare_g5 (C : ref01_Compare_C) (v : ref01_Compare_Y3) : treg tysT (orc (ref01_Compare_tab C)) 36 (regO (bodyOf f11) 5) false [(4, .any)] (ref01_Compare_S3 v) some = (ref01_Compare_r5 C v).eval fun y => some (ref01_Compare_S4 y) := by kernel_rfl
abbrev ref01_Compare_Y6 : Type := Bool × Bool × Int × Int × Bool × Int × Int
def ref01_Compare_S6 (v : ref01_Compare_Y6) : St := ⟨[(5, .ptr 0 0), (6, .ptr 1 0), (29, .bool v.1)], [.cells [.bool v.2.1, .int .u64 v.2.2.1, .int .u64 v.2.2.2.1], .cells [.bool v.2.2.2.2.1, .int .u64 v.2.2.2.2.2.1, .int .u64 v.2.2.2.2.2.2]]⟩
def ref01_Compare_r6 (C : ref01_Compare_C) (v : ref01_Compare_Y2) : Dt ref01_Compare_Y6 := (Dt.bnd (C.2.1 ((v.2.1, v.2.2.1, v.2.2.2.1, ()), ())) fun r1 => (Dt.ret ((decide (r1 < (0:Int))), v.2.1, v.2.2.1, v.2.2.2.1, v.2.2.2.2.1, v.2.2.2.2.2.1, v.2.2.2.2.2.2)))
theorem ref01_Compare_g6 (C : ref01_Compare_C) (v : ref01_Compare_Y2) : treg tysT (orc (ref01_Compare_tab C)) 36 (regO (bodyOf f11) 6) false [(5, .any), (6, .any), (29, .any)] (ref01_Compare_S2 v) some = (ref01_Compare_r6 C v).eval fun y => some (ref01_Compare_S6 y) := by kernel_rfl
def ref01_Compare_r7 (C : ref01_Compare_C) (v : ref01_Compare_Y6) : Dt ref01_Compare_Y4 := (Dt.bnd (C.2.2.1 ((v.2.2.2.2.1, v.2.2.2.2.2.1, v.2.2.2.2.2.2, ()), (v.2.1, v.2.2.1, v.2.2.2.1, ()), ())) fun r1 => (Dt.ret r1))
theorem ref01_Compare_g7 (C : ref01_Compare_C) (v : ref01_Compare_Y6) : treg tysT (orc (ref01_Compare_tab C)) 36 (regO (bodyOf f11) 7) false [(4, .any)] (ref01_Compare_S6 v) some = (ref01_Compare_r7 C v).eval fun y => some (ref01_Compare_S4 y) := by kernel_rfl
def ref01_Compare_r8 (C : ref01_Compare_C) (v : ref01_Compare_Y6) : Dt ref01_Compare_Y4 := (Dt.bnd (C.2.2.1 ((v.2.1, v.2.2.1, v.2.2.2.1, ()), (v.2.2.2.2.1, v.2.2.2.2.2.1, v.2.2.2.2.2.2, ()), ())) fun r1 => (Dt.ret r1))
theorem ref01_Compare_g8 (C : ref01_Compare_C) (v : ref01_Compare_Y6) : treg tysT (orc (ref01_Compare_tab C)) 36 (regO (bodyOf f11) 8) false [(4, .any)] (ref01_Compare_S6 v) some = (ref01_Compare_r8 C v).eval fun y => some (ref01_Compare_S4 y) := by kernel_rfl
def F_ref01_Compare (d : Nat) (x : ref01_Compare_X) : Option ref01_Compare_R :=
  (ref01_Compare_r0 (ref01_Compare_K d) (x.1.1, x.1.2.1, x.2.1.1, x.2.1.2.1)).eval fun y0 =>
  (ref01_Compare_r1 (ref01_Compare_K d) y0).eval fun y1 =>
  (ref01_Compare_r2 (ref01_Compare_K d) y1).eval fun y2 =>
  bif y2.1 then ((ref01_Compare_r3 (ref01_Compare_K d) y2).eval fun y3 =>
  bif y3 then ((ref01_Compare_r4 (ref01_Compare_K d) y3).eval fun y4 =>
  some y4) else ((ref01_Compare_r5 (ref01_Compare_K d) y3).eval fun y5 =>
  some y5)) else ((ref01_Compare_r6 (ref01_Compare_K d) y2).eval fun y6 =>
  bif y6.1 then ((ref01_Compare_r7 (ref01_Compare_K d) y6).eval fun y7 =>
  some y7) else ((ref01_Compare_r8 (ref01_Compare_K d) y6).eval fun y8 =>
  some y8))
theorem ref01_Compare_cok (d : Nat) : COK prog (ref01_Compare_sp (F_ref01_Compare d)) := by
  have hm : prog.follows .mixedOrders = true := mixed
  have hT := tys
  have hC0 : OrcOK prog (orc (ref01_Compare_tab (ref01_Compare_K d))) := orc_ok (by
    intro S hS
    simp only [ref01_Compare_tab, List.mem_cons, List.not_mem_nil, or_false] at hS
    rcases hS with rfl | rfl | rfl
    · exact ref01_Product_cok d
    · exact ref01_Sign_cok d
    · exact ref01_less_cok d)
  have hC : OrcOK prog (orc (ref01_Compare_tab (ref01_Compare_K d))) := hC0
  refine cok_of (c := bodyOf f11) (fn := f11) hT (by kernel_rfl) (by kernel_rfl) (by decide) fun x r h w0 φ0 Q hend => ?_
  replace h : F_ref01_Compare d x = some r := h
  unfold F_ref01_Compare at h
  show Run prog w0 φ0 36 (bodyOf f11) ⟨[(0, .agg [.int .i64 x.1.1, .int .i64 x.1.2.1]), (1, .agg [.int .i64 x.2.1.1, .int .i64 x.2.1.2.1])], []⟩ Q
  refine run_seq ?_
  refine run_reg hm hT hC (ref01_Compare_g0 (ref01_Compare_K d) (x.1.1, x.1.2.1, x.2.1.1, x.2.1.2.1)) h ?_
  intro y0 h
  refine cn_then ?_
  refine run_seq ?_
  refine run_reg hm hT hC (ref01_Compare_g1 (ref01_Compare_K d) y0) h ?_
  intro y1 h
  refine cn_then ?_
  refine run_seq ?_
  refine run_seq ?_
  refine run_reg hm hT hC (ref01_Compare_g2 (ref01_Compare_K d) y1) h ?_
  intro y2 h
  refine cn_then ?_
  refine run_cond (v := y2.1) (by kernel_rfl) h ?_ ?_
  ·
    intro h
    refine run_seq ?_
    refine run_seq ?_
    refine run_reg hm hT hC (ref01_Compare_g3 (ref01_Compare_K d) y2) h ?_
    intro y3 h
    refine cn_then ?_
    refine run_cond (v := y3) (by kernel_rfl) h ?_ ?_
    ·
      intro h
      refine run_seq ?_
      refine run_reg hm hT hC (ref01_Compare_g4 (ref01_Compare_K d) y3) h ?_
      intro y4 h
      refine cn_then ?_
      refine run_ret ?_
      refine cn_then_ret ?_
      refine cn_then_ret ?_
      cases h
      exact (hend _ (by kernel_rfl)).2
    ·
      intro h
      refine run_skip ?_
      refine cn_then ?_
      refine run_seq ?_
      refine run_reg hm hT hC (ref01_Compare_g5 (ref01_Compare_K d) y3) h ?_
      intro y5 h
      refine cn_then ?_
      refine run_ret ?_
      refine cn_then_ret ?_
      cases h
      exact (hend _ (by kernel_rfl)).2
  ·
    intro h
    refine run_skip ?_
    refine cn_then ?_
    refine run_seq ?_
    refine run_seq ?_
    refine run_reg hm hT hC (ref01_Compare_g6 (ref01_Compare_K d) y2) h ?_
    intro y6 h
    refine cn_then ?_
    refine run_cond (v := y6.1) (by kernel_rfl) h ?_ ?_
    ·
      intro h
      refine run_seq ?_
      refine run_reg hm hT hC (ref01_Compare_g7 (ref01_Compare_K d) y6) h ?_
      intro y7 h
      refine cn_then ?_
      refine run_ret ?_
      refine cn_then_ret ?_
      cases h
      exact (hend _ (by kernel_rfl)).2
    ·
      intro h
      refine run_skip ?_
      refine cn_then ?_
      refine run_seq ?_
      refine run_reg hm hT hC (ref01_Compare_g8 (ref01_Compare_K d) y6) h ?_
      intro y8 h
      refine cn_then ?_
      refine run_ret ?_
      cases h
      exact (hend _ (by kernel_rfl)).2
abbrev ref01_Both_ps : List Pk := [.row Rii true, .row Rii true]
abbrev ref01_Both_X : Type := Dii × Dii × Unit
abbrev ref01_Both_R : Type := Int
def ref01_Both_enc (r : ref01_Both_R) : LV × List Ob := (.int .i64 r, [])
def ref01_Both_sp (F : ref01_Both_X → Option ref01_Both_R) : Go.Tx.Spec := ⟨32, ref01_Both_ps, ref01_Both_R, F, ref01_Both_enc⟩
abbrev ref01_Both_C : Type := (ref01_Check_X → Option ref01_Check_R) × Unit
def ref01_Both_K (d : Nat) : ref01_Both_C := (F_ref01_Check d, ())
def ref01_Both_tab (C : ref01_Both_C) : List Go.Tx.Spec := [ref01_Check_sp C.1]
abbrev ref01_Both_Y0i : Type := Int × Int × Int × Int
def ref01_Both_S0i (v : ref01_Both_Y0i) : St := ⟨[(0, .agg [.int .i64 v.1, .int .i64 v.2.1]), (1, .agg [.int .i64 v.2.2.1, .int .i64 v.2.2.2])], []⟩
abbrev ref01_Both_Y0 : Type := Int × Int × Int × Int
def ref01_Both_S0 (v : ref01_Both_Y0) : St := ⟨[(2, .ptr 0 0), (3, .ptr 1 0)], [.cells [.int .i64 v.1, .int .i64 v.2.1], .cells [.int .i64 v.2.2.1, .int .i64 v.2.2.2]]⟩
def ref01_Both_r0 (C : ref01_Both_C) (v : ref01_Both_Y0i) : Dt ref01_Both_Y0 := (Dt.ret (v.1, v.2.1, v.2.2.1, v.2.2.2))
theorem ref01_Both_g0 (C : ref01_Both_C) (v : ref01_Both_Y0i) : treg tysT (orc (ref01_Both_tab C)) 12 (regO (bodyOf f32) 0) false [(2, .any), (3, .any)] (ref01_Both_S0i v) some = (ref01_Both_r0 C v).eval fun y => some (ref01_Both_S0 y) := by kernel_rfl
abbrev ref01_Both_Y1 : Type := Bool × Int × Int × Int × Int
def ref01_Both_S1 (v : ref01_Both_Y1) : St := ⟨[(2, .ptr 0 0), (3, .ptr 1 0), (7, .bool v.1)], [.cells [.int .i64 v.2.1, .int .i64 v.2.2.1], .cells [.int .i64 v.2.2.2.1, .int .i64 v.2.2.2.2]]⟩
def ref01_Both_r1 (C : ref01_Both_C) (v : ref01_Both_Y0) : Dt ref01_Both_Y1 := (Dt.bnd (C.1 ((v.1, v.2.1, ()), ())) fun r1 => (Dt.ret ((r1 != (0:Int)), v.1, v.2.1, v.2.2.1, v.2.2.2)))
theorem ref01_Both_g1 (C : ref01_Both_C) (v : ref01_Both_Y0) : treg tysT (orc (ref01_Both_tab C)) 12 (regO (bodyOf f32) 1) false [(2, .any), (3, .any), (7, .any)] (ref01_Both_S0 v) some = (ref01_Both_r1 C v).eval fun y => some (ref01_Both_S1 y) := by kernel_rfl
abbrev ref01_Both_Y2 : Type := Int
def ref01_Both_S2 (v : ref01_Both_Y2) : St := ⟨[(4, .int .i64 v)], []⟩
def ref01_Both_r2 (C : ref01_Both_C) (v : ref01_Both_Y1) : Dt ref01_Both_Y2 := (Dt.bnd (C.1 ((v.2.1, v.2.2.1, ()), ())) fun r1 => (Dt.ret r1))
theorem ref01_Both_g2 (C : ref01_Both_C) (v : ref01_Both_Y1) : treg tysT (orc (ref01_Both_tab C)) 12 (regO (bodyOf f32) 2) false [(4, .any)] (ref01_Both_S1 v) some = (ref01_Both_r2 C v).eval fun y => some (ref01_Both_S2 y) := by kernel_rfl
def ref01_Both_r3 (C : ref01_Both_C) (v : ref01_Both_Y1) : Dt ref01_Both_Y2 := (Dt.bnd (C.1 ((v.2.2.2.1, v.2.2.2.2, ()), ())) fun r1 => (Dt.ret r1))
theorem ref01_Both_g3 (C : ref01_Both_C) (v : ref01_Both_Y1) : treg tysT (orc (ref01_Both_tab C)) 12 (regO (bodyOf f32) 3) false [(4, .any)] (ref01_Both_S1 v) some = (ref01_Both_r3 C v).eval fun y => some (ref01_Both_S2 y) := by kernel_rfl
def F_ref01_Both (d : Nat) (x : ref01_Both_X) : Option ref01_Both_R :=
  (ref01_Both_r0 (ref01_Both_K d) (x.1.1, x.1.2.1, x.2.1.1, x.2.1.2.1)).eval fun y0 =>
  (ref01_Both_r1 (ref01_Both_K d) y0).eval fun y1 =>
  bif y1.1 then ((ref01_Both_r2 (ref01_Both_K d) y1).eval fun y2 =>
  some y2) else ((ref01_Both_r3 (ref01_Both_K d) y1).eval fun y3 =>
  some y3)
theorem ref01_Both_cok (d : Nat) : COK prog (ref01_Both_sp (F_ref01_Both d)) := by
  have hm : prog.follows .mixedOrders = true := mixed
  have hT := tys
  have hC0 : OrcOK prog (orc (ref01_Both_tab (ref01_Both_K d))) := orc_ok (by
    intro S hS
    simp only [ref01_Both_tab, List.mem_cons, List.not_mem_nil, or_false] at hS
    subst hS; exact ref01_Check_cok d)
  have hC : OrcOK prog (orc (ref01_Both_tab (ref01_Both_K d))) := hC0
  refine cok_of (c := bodyOf f32) (fn := f32) hT (by kernel_rfl) (by kernel_rfl) (by decide) fun x r h w0 φ0 Q hend => ?_
  replace h : F_ref01_Both d x = some r := h
  unfold F_ref01_Both at h
  show Run prog w0 φ0 12 (bodyOf f32) ⟨[(0, .agg [.int .i64 x.1.1, .int .i64 x.1.2.1]), (1, .agg [.int .i64 x.2.1.1, .int .i64 x.2.1.2.1])], []⟩ Q
  refine run_seq ?_
  refine run_reg hm hT hC (ref01_Both_g0 (ref01_Both_K d) (x.1.1, x.1.2.1, x.2.1.1, x.2.1.2.1)) h ?_
  intro y0 h
  refine cn_then ?_
  refine run_seq ?_
  refine run_seq ?_
  refine run_reg hm hT hC (ref01_Both_g1 (ref01_Both_K d) y0) h ?_
  intro y1 h
  refine cn_then ?_
  refine run_cond (v := y1.1) (by kernel_rfl) h ?_ ?_
  ·
    intro h
    refine run_seq ?_
    refine run_reg hm hT hC (ref01_Both_g2 (ref01_Both_K d) y1) h ?_
    intro y2 h
    refine cn_then ?_
    refine run_ret ?_
    refine cn_then_ret ?_
    cases h
    exact (hend _ (by kernel_rfl)).2
  ·
    intro h
    refine run_skip ?_
    refine cn_then ?_
    refine run_seq ?_
    refine run_reg hm hT hC (ref01_Both_g3 (ref01_Both_K d) y1) h ?_
    intro y3 h
    refine cn_then ?_
    refine run_ret ?_
    cases h
    exact (hend _ (by kernel_rfl)).2
abbrev ref04_Times_ps : List Pk := [.row RLiiiE true, .row Rii true, .row Rii true]
abbrev ref04_Times_X : Type := DLiiiE × Dii × Dii × Unit
abbrev ref04_Times_R : Type := Int
def ref04_Times_enc (r : ref04_Times_R) : LV × List Ob := (.int .i64 r, [])
def ref04_Times_sp (F : ref04_Times_X → Option ref04_Times_R) : Go.Tx.Spec := ⟨16, ref04_Times_ps, ref04_Times_R, F, ref04_Times_enc⟩
abbrev ref04_Times_C : Type := (ref01_Compare_X → Option ref01_Compare_R) × (ref03_Check_X → Option ref03_Check_R) × (ref01_Both_X → Option ref01_Both_R) × Unit
def ref04_Times_K (d : Nat) : ref04_Times_C := (F_ref01_Compare d, F_ref03_Check d, F_ref01_Both d, ())
def ref04_Times_tab (C : ref04_Times_C) : List Go.Tx.Spec := [ref01_Compare_sp C.1, ref03_Check_sp C.2.1, ref01_Both_sp C.2.2.1]
abbrev ref04_Times_Y0i : Type := List Diii × Int × Int × Int × Int
def ref04_Times_S0i (v : ref04_Times_Y0i) : St := ⟨[(0, .agg [.fz Riii v.1]), (1, .agg [.int .i64 v.2.1, .int .i64 v.2.2.1]), (2, .agg [.int .i64 v.2.2.2.1, .int .i64 v.2.2.2.2])], []⟩
abbrev ref04_Times_Y0 : Type := List Diii × Int × Int × Int × Int
def ref04_Times_S0 (v : ref04_Times_Y0) : St := ⟨[(3, .ptr 0 0), (4, .ptr 1 0), (5, .ptr 2 0)], [.cells [.fz Riii v.1], .cells [.int .i64 v.2.1, .int .i64 v.2.2.1], .cells [.int .i64 v.2.2.2.1, .int .i64 v.2.2.2.2]]⟩
def ref04_Times_r0 (C : ref04_Times_C) (v : ref04_Times_Y0i) : Dt ref04_Times_Y0 := (Dt.ret (v.1, v.2.1, v.2.2.1, v.2.2.2.1, v.2.2.2.2))
theorem ref04_Times_g0 (C : ref04_Times_C) (v : ref04_Times_Y0i) : treg tysT (orc (ref04_Times_tab C)) 24 (regO (bodyOf f16) 0) false [(3, (.box [.val Riii])), (4, .any), (5, .any)] (ref04_Times_S0i v) some = (ref04_Times_r0 C v).eval fun y => some (ref04_Times_S0 y) := by kernel_rfl
abbrev ref04_Times_Y1 : Type := Int × Int × Int × Int × Int
def ref04_Times_S1 (v : ref04_Times_Y1) : St := ⟨[(4, .ptr 0 0), (5, .ptr 1 0), (7, .int .i64 v.1)], [.cells [.int .i64 v.2.1, .int .i64 v.2.2.1], .cells [.int .i64 v.2.2.2.1, .int .i64 v.2.2.2.2]]⟩
def ref04_Times_r1 (C : ref04_Times_C) (v : ref04_Times_Y0) : Dt ref04_Times_Y1 := (Dt.bnd (C.2.1 ((v.1, ()), ())) fun r1 => (Dt.ret (r1, v.2.1, v.2.2.1, v.2.2.2.1, v.2.2.2.2)))
theorem ref04_Times_g1 (C : ref04_Times_C) (v : ref04_Times_Y0) : treg tysT (orc (ref04_Times_tab C)) 24 (regO (bodyOf f16) 1) false [(4, .any), (5, .any), (7, .any)] (ref04_Times_S0 v) some = (ref04_Times_r1 C v).eval fun y => some (ref04_Times_S1 y) := by kernel_rfl
abbrev ref04_Times_Y2 : Type := Int × Bool × Int × Int × Int × Int
def ref04_Times_S2 (v : ref04_Times_Y2) : St := ⟨[(4, .ptr 0 0), (5, .ptr 1 0), (7, .int .i64 v.1), (12, .bool v.2.1)], [.cells [.int .i64 v.2.2.1, .int .i64 v.2.2.2.1], .cells [.int .i64 v.2.2.2.2.1, .int .i64 v.2.2.2.2.2]]⟩
def ref04_Times_r2 (C : ref04_Times_C) (v : ref04_Times_Y1) : Dt ref04_Times_Y2 := (Dt.ret (v.1, (v.1 != (0:Int)), v.2.1, v.2.2.1, v.2.2.2.1, v.2.2.2.2))
theorem ref04_Times_g2 (C : ref04_Times_C) (v : ref04_Times_Y1) : treg tysT (orc (ref04_Times_tab C)) 24 (regO (bodyOf f16) 2) false [(4, .any), (5, .any), (7, .any), (12, .any)] (ref04_Times_S1 v) some = (ref04_Times_r2 C v).eval fun y => some (ref04_Times_S2 y) := by kernel_rfl
abbrev ref04_Times_Y3 : Type := Int
def ref04_Times_S3 (v : ref04_Times_Y3) : St := ⟨[(6, .int .i64 v)], []⟩
def ref04_Times_r3 (C : ref04_Times_C) (v : ref04_Times_Y2) : Dt ref04_Times_Y3 := (Dt.ret v.1)
theorem ref04_Times_g3 (C : ref04_Times_C) (v : ref04_Times_Y2) : treg tysT (orc (ref04_Times_tab C)) 24 (regO (bodyOf f16) 3) false [(6, .any)] (ref04_Times_S2 v) some = (ref04_Times_r3 C v).eval fun y => some (ref04_Times_S3 y) := by kernel_rfl
abbrev ref04_Times_Y4 : Type := Int × Int × Int × Int × Int
def ref04_Times_S4 (v : ref04_Times_Y4) : St := ⟨[(4, .ptr 0 0), (5, .ptr 1 0), (8, .int .i64 v.1)], [.cells [.int .i64 v.2.1, .int .i64 v.2.2.1], .cells [.int .i64 v.2.2.2.1, .int .i64 v.2.2.2.2]]⟩
def ref04_Times_r4 (C : ref04_Times_C) (v : ref04_Times_Y2) : Dt ref04_Times_Y4 := (Dt.bnd (C.2.2.1 ((v.2.2.1, v.2.2.2.1, ()), (v.2.2.2.2.1, v.2.2.2.2.2, ()), ())) fun r1 => (Dt.ret (r1, v.2.2.1, v.2.2.2.1, v.2.2.2.2.1, v.2.2.2.2.2)))
theorem ref04_Times_g4 (C : ref04_Times_C) (v : ref04_Times_Y2) : treg tysT (orc (ref04_Times_tab C)) 24 (regO (bodyOf f16) 4) false [(4, .any), (5, .any), (8, .any)] (ref04_Times_S2 v) some = (ref04_Times_r4 C v).eval fun y => some (ref04_Times_S4 y) := by kernel_rfl
abbrev ref04_Times_Y5 : Type := Int × Bool × Int × Int × Int × Int
def ref04_Times_S5 (v : ref04_Times_Y5) : St := ⟨[(4, .ptr 0 0), (5, .ptr 1 0), (8, .int .i64 v.1), (18, .bool v.2.1)], [.cells [.int .i64 v.2.2.1, .int .i64 v.2.2.2.1], .cells [.int .i64 v.2.2.2.2.1, .int .i64 v.2.2.2.2.2]]⟩
def ref04_Times_r5 (C : ref04_Times_C) (v : ref04_Times_Y4) : Dt ref04_Times_Y5 := (Dt.ret (v.1, (v.1 != (0:Int)), v.2.1, v.2.2.1, v.2.2.2.1, v.2.2.2.2))
theorem ref04_Times_g5 (C : ref04_Times_C) (v : ref04_Times_Y4) : treg tysT (orc (ref04_Times_tab C)) 24 (regO (bodyOf f16) 5) false [(4, .any), (5, .any), (8, .any), (18, .any)] (ref04_Times_S4 v) some = (ref04_Times_r5 C v).eval fun y => some (ref04_Times_S5 y) := by kernel_rfl
def ref04_Times_r6 (C : ref04_Times_C) (v : ref04_Times_Y5) : Dt ref04_Times_Y3 := (Dt.ret v.1)
theorem ref04_Times_g6 (C : ref04_Times_C) (v : ref04_Times_Y5) : treg tysT (orc (ref04_Times_tab C)) 24 (regO (bodyOf f16) 6) false [(6, .any)] (ref04_Times_S5 v) some = (ref04_Times_r6 C v).eval fun y => some (ref04_Times_S3 y) := by kernel_rfl
abbrev ref04_Times_Y7 : Type := Bool
def ref04_Times_S7 (v : ref04_Times_Y7) : St := ⟨[(23, .bool v)], []⟩
def ref04_Times_r7 (C : ref04_Times_C) (v : ref04_Times_Y5) : Dt ref04_Times_Y7 := (Dt.bnd (C.1 ((v.2.2.1, v.2.2.2.1, ()), (v.2.2.2.2.1, v.2.2.2.2.2, ()), ())) fun r1 => (Dt.ret (decide (r1 > (0:Int)))))
theorem ref04_Times_g7 (C : ref04_Times_C) (v : ref04_Times_Y5) : treg tysT (orc (ref04_Times_tab C)) 24 (regO (bodyOf f16) 7) false [(23, .any)] (ref04_Times_S5 v) some = (ref04_Times_r7 C v).eval fun y => some (ref04_Times_S7 y) := by kernel_rfl
def ref04_Times_r8 (C : ref04_Times_C) (v : ref04_Times_Y7) : Dt ref04_Times_Y3 := (Dt.ret (2:Int))
theorem ref04_Times_g8 (C : ref04_Times_C) (v : ref04_Times_Y7) : treg tysT (orc (ref04_Times_tab C)) 24 (regO (bodyOf f16) 8) false [(6, .any)] (ref04_Times_S7 v) some = (ref04_Times_r8 C v).eval fun y => some (ref04_Times_S3 y) := by kernel_rfl
def ref04_Times_r9 (C : ref04_Times_C) (v : ref04_Times_Y7) : Dt ref04_Times_Y3 := (Dt.ret (0:Int))
theorem ref04_Times_g9 (C : ref04_Times_C) (v : ref04_Times_Y7) : treg tysT (orc (ref04_Times_tab C)) 24 (regO (bodyOf f16) 9) false [(6, .any)] (ref04_Times_S7 v) some = (ref04_Times_r9 C v).eval fun y => some (ref04_Times_S3 y) := by kernel_rfl
def F_ref04_Times (d : Nat) (x : ref04_Times_X) : Option ref04_Times_R :=
  (ref04_Times_r0 (ref04_Times_K d) (x.1.1, x.2.1.1, x.2.1.2.1, x.2.2.1.1, x.2.2.1.2.1)).eval fun y0 =>
  (ref04_Times_r1 (ref04_Times_K d) y0).eval fun y1 =>
  (ref04_Times_r2 (ref04_Times_K d) y1).eval fun y2 =>
  bif y2.2.1 then ((ref04_Times_r3 (ref04_Times_K d) y2).eval fun y3 =>
  some y3) else ((ref04_Times_r4 (ref04_Times_K d) y2).eval fun y4 =>
  (ref04_Times_r5 (ref04_Times_K d) y4).eval fun y5 =>
  bif y5.2.1 then ((ref04_Times_r6 (ref04_Times_K d) y5).eval fun y6 =>
  some y6) else ((ref04_Times_r7 (ref04_Times_K d) y5).eval fun y7 =>
  bif y7 then ((ref04_Times_r8 (ref04_Times_K d) y7).eval fun y8 =>
  some y8) else ((ref04_Times_r9 (ref04_Times_K d) y7).eval fun y9 =>
  some y9)))
theorem ref04_Times_cok (d : Nat) : COK prog (ref04_Times_sp (F_ref04_Times d)) := by
  have hm : prog.follows .mixedOrders = true := mixed
  have hT := tys
  have hC0 : OrcOK prog (orc (ref04_Times_tab (ref04_Times_K d))) := orc_ok (by
    intro S hS
    simp only [ref04_Times_tab, List.mem_cons, List.not_mem_nil, or_false] at hS
    rcases hS with rfl | rfl | rfl
    · exact ref01_Compare_cok d
    · exact ref03_Check_cok d
    · exact ref01_Both_cok d)
  have hC : OrcOK prog (orc (ref04_Times_tab (ref04_Times_K d))) := hC0
  refine cok_of (c := bodyOf f16) (fn := f16) hT (by kernel_rfl) (by kernel_rfl) (by decide) fun x r h w0 φ0 Q hend => ?_
  replace h : F_ref04_Times d x = some r := h
  unfold F_ref04_Times at h
  show Run prog w0 φ0 24 (bodyOf f16) ⟨[(0, .agg [.fz Riii x.1.1]), (1, .agg [.int .i64 x.2.1.1, .int .i64 x.2.1.2.1]), (2, .agg [.int .i64 x.2.2.1.1, .int .i64 x.2.2.1.2.1])], []⟩ Q
  refine run_seq ?_
  refine run_reg hm hT hC (ref04_Times_g0 (ref04_Times_K d) (x.1.1, x.2.1.1, x.2.1.2.1, x.2.2.1.1, x.2.2.1.2.1)) h ?_
  intro y0 h
  refine cn_then ?_
  refine run_seq ?_
  refine run_seq ?_
  refine run_reg hm hT hC (ref04_Times_g1 (ref04_Times_K d) y0) h ?_
  intro y1 h
  refine cn_then ?_
  refine run_seq ?_
  refine run_reg hm hT hC (ref04_Times_g2 (ref04_Times_K d) y1) h ?_
  intro y2 h
  refine cn_then ?_
  refine run_cond (v := y2.2.1) (by kernel_rfl) h ?_ ?_
  ·
    intro h
    refine run_seq ?_
    refine run_reg hm hT hC (ref04_Times_g3 (ref04_Times_K d) y2) h ?_
    intro y3 h
    refine cn_then ?_
    refine run_ret ?_
    refine cn_then_ret ?_
    cases h
    exact (hend _ (by kernel_rfl)).2
  ·
    intro h
    refine run_skip ?_
    refine cn_then ?_
    refine run_seq ?_
    refine run_seq ?_
    refine run_reg hm hT hC (ref04_Times_g4 (ref04_Times_K d) y2) h ?_
    intro y4 h
    refine cn_then ?_
    refine run_seq ?_
    refine run_reg hm hT hC (ref04_Times_g5 (ref04_Times_K d) y4) h ?_
    intro y5 h
    refine cn_then ?_
    refine run_cond (v := y5.2.1) (by kernel_rfl) h ?_ ?_
    ·
      intro h
      refine run_seq ?_
      refine run_reg hm hT hC (ref04_Times_g6 (ref04_Times_K d) y5) h ?_
      intro y6 h
      refine cn_then ?_
      refine run_ret ?_
      refine cn_then_ret ?_
      cases h
      exact (hend _ (by kernel_rfl)).2
    ·
      intro h
      refine run_skip ?_
      refine cn_then ?_
      refine run_seq ?_
      refine run_seq ?_
      refine run_reg hm hT hC (ref04_Times_g7 (ref04_Times_K d) y5) h ?_
      intro y7 h
      refine cn_then ?_
      refine run_cond (v := y7) (by kernel_rfl) h ?_ ?_
      ·
        intro h
        refine run_seq ?_
        refine run_reg hm hT hC (ref04_Times_g8 (ref04_Times_K d) y7) h ?_
        intro y8 h
        refine cn_then ?_
        refine run_ret ?_
        refine cn_then_ret ?_
        cases h
        exact (hend _ (by kernel_rfl)).2
      ·
        intro h
        refine run_skip ?_
        refine cn_then ?_
        refine run_seq ?_
        refine run_reg hm hT hC (ref04_Times_g9 (ref04_Times_K d) y7) h ?_
        intro y9 h
        refine cn_then ?_
        refine run_ret ?_
        cases h
        exact (hend _ (by kernel_rfl)).2
abbrev ref04_Same_ps : List Pk := [.row RLiiiiE false, .row RLiiiiE false]
abbrev ref04_Same_X : Type := DLiiiiE × DLiiiiE × Unit
abbrev ref04_Same_R : Type := Bool
def ref04_Same_enc (r : ref04_Same_R) : LV × List Ob := (.bool r, [])
def ref04_Same_sp (F : ref04_Same_X → Option ref04_Same_R) : Go.Tx.Spec := ⟨19, ref04_Same_ps, ref04_Same_R, F, ref04_Same_enc⟩
abbrev ref04_Same_C : Type := Unit
def ref04_Same_K (_d : Nat) : ref04_Same_C := ()
def ref04_Same_tab (C : ref04_Same_C) : List Go.Tx.Spec := []
abbrev ref04_Same_Y0i : Type := List Diiii × List Diiii
def ref04_Same_S0i (v : ref04_Same_Y0i) : St := ⟨[(0, .fz Riiii v.1), (1, .fz Riiii v.2)], []⟩
def ref04_Same_r0 (C : ref04_Same_C) (v : ref04_Same_Y0i) : Dt ref04_Same_Y0i := (Dt.ret (v.1, v.2))
theorem ref04_Same_g0 (C : ref04_Same_C) (v : ref04_Same_Y0i) : treg tysT (orc (ref04_Same_tab C)) 26 (regO (bodyOf f19) 0) false [(0, (.val Riiii)), (1, (.val Riiii))] (ref04_Same_S0i v) some = (ref04_Same_r0 C v).eval fun y => some (ref04_Same_S0i y) := by kernel_rfl
abbrev ref04_Same_Y1 : Type := List Diiii × List Diiii × Bool
def ref04_Same_S1 (v : ref04_Same_Y1) : St := ⟨[(0, .fz Riiii v.1), (1, .fz Riiii v.2.1), (10, .bool v.2.2)], []⟩
def ref04_Same_r1 (C : ref04_Same_C) (v : ref04_Same_Y0i) : Dt ref04_Same_Y1 := (Dt.ret (v.1, v.2, ((List.length v.1 : Int) != (List.length v.2 : Int))))
theorem ref04_Same_g1 (C : ref04_Same_C) (v : ref04_Same_Y0i) : treg tysT (orc (ref04_Same_tab C)) 26 (regO (bodyOf f19) 1) false [(0, (.val Riiii)), (1, (.val Riiii)), (10, .any)] (ref04_Same_S0i v) some = (ref04_Same_r1 C v).eval fun y => some (ref04_Same_S1 y) := by kernel_rfl
abbrev ref04_Same_Y2 : Type := Bool
def ref04_Same_S2 (v : ref04_Same_Y2) : St := ⟨[(4, .bool v)], []⟩
def ref04_Same_r2 (C : ref04_Same_C) (v : ref04_Same_Y1) : Dt ref04_Same_Y2 := (Dt.ret false)
theorem ref04_Same_g2 (C : ref04_Same_C) (v : ref04_Same_Y1) : treg tysT (orc (ref04_Same_tab C)) 26 (regO (bodyOf f19) 2) false [(4, .any)] (ref04_Same_S1 v) some = (ref04_Same_r2 C v).eval fun y => some (ref04_Same_S2 y) := by kernel_rfl
abbrev ref04_Same_Y3 : Type := List Diiii × List Diiii × Int
def ref04_Same_S3 (v : ref04_Same_Y3) : St := ⟨[(0, .fz Riiii v.1), (1, .fz Riiii v.2.1), (5, .int .i64 v.2.2)], []⟩
def ref04_Same_r3 (C : ref04_Same_C) (v : ref04_Same_Y1) : Dt ref04_Same_Y3 := (Dt.ret (v.1, v.2.1, (0:Int)))
theorem ref04_Same_g3 (C : ref04_Same_C) (v : ref04_Same_Y1) : treg tysT (orc (ref04_Same_tab C)) 26 (regO (bodyOf f19) 3) false [(0, (.val Riiii)), (1, (.val Riiii)), (5, .any)] (ref04_Same_S1 v) some = (ref04_Same_r3 C v).eval fun y => some (ref04_Same_S3 y) := by kernel_rfl
abbrev ref04_Same_Y4 : Type := List Diiii × List Diiii × Int × Bool
def ref04_Same_S4 (v : ref04_Same_Y4) : St := ⟨[(0, .fz Riiii v.1), (1, .fz Riiii v.2.1), (5, .int .i64 v.2.2.1), (14, .bool v.2.2.2)], []⟩
def ref04_Same_r4 (C : ref04_Same_C) (v : ref04_Same_Y3) : Dt ref04_Same_Y4 := (Dt.ret (v.1, v.2.1, v.2.2, (decide (v.2.2 < (List.length v.1 : Int)))))
theorem ref04_Same_g4 (C : ref04_Same_C) (v : ref04_Same_Y3) : treg tysT (orc (ref04_Same_tab C)) 26 (regO (bodyOf f19) 4) false [(0, (.val Riiii)), (1, (.val Riiii)), (5, .any), (14, .any)] (ref04_Same_S3 v) some = (ref04_Same_r4 C v).eval fun y => some (ref04_Same_S4 y) := by kernel_rfl
abbrev ref04_Same_Y6 : Type := List Diiii × List Diiii × Int × Bool
def ref04_Same_S6 (v : ref04_Same_Y6) : St := ⟨[(0, .fz Riiii v.1), (1, .fz Riiii v.2.1), (5, .int .i64 v.2.2.1), (25, .bool v.2.2.2)], []⟩
def ref04_Same_r6 (C : ref04_Same_C) (v : ref04_Same_Y4) : Dt ref04_Same_Y6 := (Dt.ite (inB v.2.2.1 (List.length v.1)) (Dt.ite (inB v.2.2.1 (List.length v.2.1)) (Dt.ret (v.1, v.2.1, v.2.2.1, (!(((elt ziiii v.1 (v.2.2.1).toNat).1 == (elt ziiii v.2.1 (v.2.2.1).toNat).1) && (((elt ziiii v.1 (v.2.2.1).toNat).2.1 == (elt ziiii v.2.1 (v.2.2.1).toNat).2.1) && (((elt ziiii v.1 (v.2.2.1).toNat).2.2.1 == (elt ziiii v.2.1 (v.2.2.1).toNat).2.2.1) && (((elt ziiii v.1 (v.2.2.1).toNat).2.2.2.1 == (elt ziiii v.2.1 (v.2.2.1).toNat).2.2.2.1) && true))))))) Dt.fail) Dt.fail)
theorem ref04_Same_g6 (C : ref04_Same_C) (v : ref04_Same_Y4) : treg tysT (orc (ref04_Same_tab C)) 26 (regO (bodyOf f19) 6) true [(0, (.val Riiii)), (1, (.val Riiii)), (5, .any), (25, .any)] (ref04_Same_S4 v) some = (ref04_Same_r6 C v).eval fun y => some (ref04_Same_S6 y) := by kernel_rfl
def ref04_Same_r7 (C : ref04_Same_C) (v : ref04_Same_Y6) : Dt ref04_Same_Y2 := (Dt.ret false)
theorem ref04_Same_g7 (C : ref04_Same_C) (v : ref04_Same_Y6) : treg tysT (orc (ref04_Same_tab C)) 26 (regO (bodyOf f19) 7) false [(4, .any)] (ref04_Same_S6 v) some = (ref04_Same_r7 C v).eval fun y => some (ref04_Same_S2 y) := by kernel_rfl
def ref04_Same_r5 (C : ref04_Same_C) (v : ref04_Same_Y6) : Dt ref04_Same_Y3 := (Dt.ret (v.1, v.2.1, (IntKind.wrap .i64 (v.2.2.1 + (1:Int)))))
theorem ref04_Same_g5 (C : ref04_Same_C) (v : ref04_Same_Y6) : treg tysT (orc (ref04_Same_tab C)) 26 (regO (bodyOf f19) 5) false [(0, (.val Riiii)), (1, (.val Riiii)), (5, .any)] (ref04_Same_S6 v) some = (ref04_Same_r5 C v).eval fun y => some (ref04_Same_S3 y) := by kernel_rfl
def ref04_Same_r8 (C : ref04_Same_C) (v : ref04_Same_Y4) : Dt ref04_Same_Y2 := (Dt.ret true)
theorem ref04_Same_g8 (C : ref04_Same_C) (v : ref04_Same_Y4) : treg tysT (orc (ref04_Same_tab C)) 26 (regO (bodyOf f19) 8) false [(4, .any)] (ref04_Same_S4 v) some = (ref04_Same_r8 C v).eval fun y => some (ref04_Same_S2 y) := by kernel_rfl
def ref04_Same_L1 (d : Nat) (self1 : (List Diiii × List Diiii × Int) → Option ref04_Same_R) (x1 : List Diiii × List Diiii × Int) : Option ref04_Same_R :=
  (ref04_Same_r4 (ref04_Same_K d) x1).eval fun y4 =>
  bif y4.2.2.2 then ((ref04_Same_r6 (ref04_Same_K d) y4).eval fun y6 =>
  bif y6.2.2.2 then ((ref04_Same_r7 (ref04_Same_K d) y6).eval fun y7 =>
  some y7) else ((ref04_Same_r5 (ref04_Same_K d) y6).eval fun y5 =>
  self1 y5)) else ((ref04_Same_r8 (ref04_Same_K d) y4).eval fun y8 =>
  some y8)
def F_ref04_Same (d : Nat) (x : ref04_Same_X) : Option ref04_Same_R :=
  (ref04_Same_r0 (ref04_Same_K d) (x.1.1, x.2.1.1)).eval fun y0 =>
  (ref04_Same_r1 (ref04_Same_K d) y0).eval fun y1 =>
  bif y1.2.2 then ((ref04_Same_r2 (ref04_Same_K d) y1).eval fun y2 =>
  some y2) else ((ref04_Same_r3 (ref04_Same_K d) y1).eval fun y3 =>
  iter (ref04_Same_L1 d ) d y3)
theorem ref04_Same_cok (d : Nat) : COK prog (ref04_Same_sp (F_ref04_Same d)) := by
  have hm : prog.follows .mixedOrders = true := mixed
  have hT := tys
  have hC0 : OrcOK prog (orc (ref04_Same_tab (ref04_Same_K d))) := orc_ok (by
    intro S hS
    simp only [ref04_Same_tab, List.mem_cons, List.not_mem_nil, or_false] at hS
    all_goals first | cases hS | exact hS.elim)
  have hC : OrcOK prog (orc (ref04_Same_tab (ref04_Same_K d))) := hC0
  refine cok_of (c := bodyOf f19) (fn := f19) hT (by kernel_rfl) (by kernel_rfl) (by decide) fun x r h w0 φ0 Q hend => ?_
  replace h : F_ref04_Same d x = some r := h
  unfold F_ref04_Same at h
  show Run prog w0 φ0 26 (bodyOf f19) ⟨[(0, .fz Riiii x.1.1), (1, .fz Riiii x.2.1.1)], []⟩ Q
  refine run_seq ?_
  refine run_reg hm hT hC (ref04_Same_g0 (ref04_Same_K d) (x.1.1, x.2.1.1)) h ?_
  intro y0 h
  refine cn_then ?_
  refine run_seq ?_
  refine run_seq ?_
  refine run_reg hm hT hC (ref04_Same_g1 (ref04_Same_K d) y0) h ?_
  intro y1 h
  refine cn_then ?_
  refine run_cond (v := y1.2.2) (by kernel_rfl) h ?_ ?_
  ·
    intro h
    refine run_seq ?_
    refine run_reg hm hT hC (ref04_Same_g2 (ref04_Same_K d) y1) h ?_
    intro y2 h
    refine cn_then ?_
    refine run_ret ?_
    refine cn_then_ret ?_
    cases h
    exact (hend _ (by kernel_rfl)).2
  ·
    intro h
    refine run_skip ?_
    refine cn_then ?_
    refine run_seq ?_
    refine run_seq ?_
    refine run_reg hm hT hC (ref04_Same_g3 (ref04_Same_K d) y1) h ?_
    intro y3 h
    refine cn_then ?_
    refine run_block ?_
    refine run_loop (G := iter (ref04_Same_L1 d )) (S := (fun x1 => ⟨[(0, .fz Riiii x1.1), (1, .fz Riiii x1.2.1), (5, .int .i64 x1.2.2)], []⟩ : List Diiii × List Diiii × Int → St)) (fun _ => rfl) ?_ d _ h
    intro n1 x1 h K1 hn1
    replace h : ref04_Same_L1 d  (iter (ref04_Same_L1 d ) n1) x1 = some r := h
    generalize iter (ref04_Same_L1 d ) n1 = self1 at h hn1
    unfold ref04_Same_L1 at h
    refine run_seq ?_
    refine run_seq ?_
    refine run_reg hm hT hC (ref04_Same_g4 (ref04_Same_K d) x1) h ?_
    intro y4 h
    refine cn_then ?_
    refine run_cond (v := y4.2.2.2) (by kernel_rfl) h ?_ ?_
    ·
      intro h
      refine run_skip ?_
      refine cn_then ?_
      refine run_seq ?_
      refine run_block ?_
      refine run_seq ?_
      refine run_reg hm hT hC (ref04_Same_g6 (ref04_Same_K d) y4) h ?_
      intro y6 h
      refine cn_then ?_
      refine run_cond (v := y6.2.2.2) (by kernel_rfl) h ?_ ?_
      ·
        intro h
        refine run_seq ?_
        refine run_reg hm hT hC (ref04_Same_g7 (ref04_Same_K d) y6) h ?_
        intro y7 h
        refine cn_then ?_
        refine run_ret ?_
        refine cn_blk_ret ?_
        refine cn_then_ret ?_
        refine cn_then_ret ?_
        refine cn_blk_ret ?_
        refine cn_then_ret ?_
        cases h
        exact (hend _ (by kernel_rfl)).2
      ·
        intro h
        refine run_skip ?_
        refine cn_blk ?_
        refine cn_then ?_
        refine run_reg hm hT hC (ref04_Same_g5 (ref04_Same_K d) y6) h ?_
        intro y5 h
        exact hn1 _ h
    ·
      intro h
      refine run_exit ?_
      refine cn_then_exit ?_
      refine cn_then_exit ?_
      refine cn_blk_eq ?_
      refine cn_then ?_
      refine run_seq ?_
      refine run_reg hm hT hC (ref04_Same_g8 (ref04_Same_K d) y4) h ?_
      intro y8 h
      refine cn_then ?_
      refine run_ret ?_
      cases h
      exact (hend _ (by kernel_rfl)).2
end Go.Proofs.YthopjgahedijcaaGreat

namespace Go.Proofs.YthopjgahedijcaaGreat
open Go.RowKit Go.Pel
set_option maxHeartbeats 400000 in
theorem find1_any (p : Pt) (id : Int) (w : World) : Calls Tryz.prog 63 #[.agg #[.int .i64 p.id, .int .i64 p.a, .int .i64 p.b], .int .i64 id] w fun e w' => e = .returned (.int .i64 (cmpI p.id id)) ∧ ∃ x, w' = ext w x := by
  go_enter Tryz.func63, Tryz.ntmps63
  go_wp2_with ((go_at_call 59; refine (cmpInt_any _ _ _).mono ?_; rintro e _ ⟨rfl, nx, rfl⟩))
  (go_ret; exact ⟨ret_int (by rfl), ext_of (by (try simp only [ext_ext]); repeat (first | exact Bel.refl _ | assumption | refine bel_and ?_ _ | refine bel_drews ?_ _ | refine Bel.ext ?_ _ | refine Bel.alloc ?_ _ | refine Bel.drewN ?_ _))⟩)
theorem find1_lit (p : Pt) (id v : Int) (h : cmpI p.id id = v) (w : World) : Calls Tryz.prog 63 #[.agg #[.int .i64 p.id, .int .i64 p.a, .int .i64 p.b], .int .i64 id] w fun e w' => e = .returned (.int .i64 v) ∧ ∃ x, w' = ext w x := h ▸ find1_any p id w
set_option maxRecDepth 10000 in
set_option maxHeartbeats 2000000 in
theorem bsf_any (A : Option Addr) (c : Nat) (l : List Pt) (id : Int) (w : World) (hs : Sl w 3 A l.length c (vp l)) (hl : l.length ≤ 1000000) (hinc : incB l = true) :
    Calls Tryz.prog 62 #[.slice A l.length c, .int .i64 id, .func (.func 63) #[] #[]] w fun e w' => e = .returned (.tuple #[.int .i64 (lowB l id), .bool (hasB l id)]) ∧ ∃ x, w' = ext w x := by
  have HI := Lib.hid hinc; clear hinc
  go_enter Tryz.func62, Tryz.ntmps62
  go_wp2
  go_loopw [9, 10] (fun i j wr => ∃ (a b : Nat), a ≤ b ∧ b ≤ l.length ∧ i = .int .i64 a ∧ j = .int .i64 b ∧ (∀ (k : Nat) (p : Pt), k < a → l[k]? = some p → p.id < id) ∧ (∀ (k : Nat) (p : Pt), b ≤ k → l[k]? = some p → id ≤ p.id) ∧ ∃ y, wr = ext w y) (fun i j _ => (intOf j - intOf i).toNat)
  case atStart => exact ⟨0, l.length, Nat.zero_le _, Nat.le_refl _, rfl, rfl, (by intro k p h; omega), (by intro k p h hp; have := (List.getElem?_eq_some_iff.1 hp).1; omega), ext_of (Bel.refl _)⟩
  case round =>
    obtain ⟨a, b, hab, hbl, rfl, rfl, h1, h2, y, rfl⟩ := hrel
    have H1 := Lib.hid h1
    have H2 := Lib.hid h2
    clear h1 h2
    by_cases hlt : a < b
    · obtain ⟨m, hm1, hm2⟩ : ∃ m : Nat, 2 * m ≤ a + b ∧ a + b ≤ 2 * m + 1 := ⟨(a + b) / 2, by omega, by omega⟩
      have hmd : ((a : Int) + (b : Int)) / 2 = (m : Int) := by omega
      obtain ⟨p, hp⟩ : ∃ p, l[m]? = some p := ⟨_, List.getElem?_eq_getElem (by omega)⟩
      obtain ⟨b0, o, rfl, hb0⟩ := hs.at_ (by omega)
      obtain ⟨r0, r1, r2⟩ := pt_at hs hp
      have HP := Lib.hid hp; clear hp
      have hml : (m : Int) < (l.length : Int) := by omega
      by_cases hpi : p.id < id
      · have e1 := Lib.hid (find1_lit p id (-1) (cmpI_lt hpi))
        go_wp2_with ((go_at_call 63; refine (e1.out _).mono ?_; rintro e _ ⟨rfl, nx, rfl⟩))
        go_roundw
        case rel =>
          refine ⟨m + 1, b, by omega, hbl, by go_num, rfl, ?_, H2.out, ext_of (by (try simp only [ext_ext]); repeat (first | exact Bel.refl _ | assumption | refine bel_and ?_ _ | refine bel_drews ?_ _ | refine Bel.ext ?_ _ | refine Bel.alloc ?_ _ | refine Bel.drewN ?_ _))⟩
          intro k q hk hq
          rcases Nat.lt_or_ge k m with h | h
          · have := inc_lt HI.out h hq HP.out; omega
          · obtain rfl : k = m := by omega
            rw [HP.out] at hq; obtain rfl := Option.some.inj hq; exact hpi
        case measure => (first | (simp [intOf]; done) | (simp [intOf]; omega))
      · have e1 : Hid (∃ v : Int, ¬ v < 0 ∧ cmpI p.id id = v) := Lib.hid (by
          by_cases h : id < p.id
          · exact ⟨1, by omega, cmpI_gt h⟩
          · exact ⟨0, by omega, cmpI_eq (by omega)⟩)
        obtain ⟨v, hv, e2⟩ := e1.out
        have e1 := Lib.hid (find1_lit p id v e2)
        clear e2
        go_wp2_with ((go_at_call 63; refine (e1.out _).mono ?_; rintro e _ ⟨rfl, nx, rfl⟩))
        go_roundw
        case rel =>
          refine ⟨a, m, by omega, by omega, rfl, rfl, H1.out, ?_, ext_of (by (try simp only [ext_ext]); repeat (first | exact Bel.refl _ | assumption | refine bel_and ?_ _ | refine bel_drews ?_ _ | refine Bel.ext ?_ _ | refine Bel.alloc ?_ _ | refine Bel.drewN ?_ _))⟩
          intro k q hk hq
          rcases Nat.lt_or_ge m k with h | h
          · have := inc_lt HI.out h HP.out hq; omega
          · obtain rfl : k = m := by omega
            rw [HP.out] at hq; obtain rfl := Option.some.inj hq; omega
        case measure => (first | (simp [intOf]; done) | (simp [intOf]; omega))
    · obtain rfl : a = b := by omega
      have HL := Lib.hid (lowB_of hbl H1.out (fun p hp => H2.out a p (Nat.le_refl _) hp))
      have HH := Lib.hid (hasB_at HI.out id)
      by_cases hal : a < l.length
      · obtain ⟨p, hp⟩ : ∃ p, l[a]? = some p := ⟨_, List.getElem?_eq_getElem hal⟩
        obtain ⟨b0, o, rfl, hb0⟩ := hs.at_ (by omega)
        obtain ⟨r0, r1, r2⟩ := pt_at hs hp
        have HP := Lib.hid hp; clear hp
        have hge := H2.out a p (Nat.le_refl _) HP.out
        have hal2 : (a : Int) < (l.length : Int) := by omega
        by_cases hpi : p.id = id
        · have e1 := Lib.hid (find1_lit p id 0 (cmpI_eq hpi))
          have HB : Hid (hasB l id = true) := Lib.hid (by rw [HH.out, HL.out, HP.out]; simpa using hpi)
          clear hpi
          go_wp2_with ((go_at_call 63; refine (e1.out _).mono ?_; rintro e _ ⟨rfl, nx, rfl⟩))
          go_ret2
          exact ⟨by rw [HL.out, HB.out]; rfl, ext_of (by (try simp only [ext_ext]); repeat (first | exact Bel.refl _ | assumption | refine bel_and ?_ _ | refine bel_drews ?_ _ | refine Bel.ext ?_ _ | refine Bel.alloc ?_ _ | refine Bel.drewN ?_ _))⟩
        · have e1 := Lib.hid (find1_lit p id 1 (cmpI_gt (by omega)))
          have HB : Hid (hasB l id = false) := Lib.hid (by rw [HH.out, HL.out, HP.out]; simpa using hpi)
          clear hpi
          go_wp2_with ((go_at_call 63; refine (e1.out _).mono ?_; rintro e _ ⟨rfl, nx, rfl⟩))
          go_ret2
          exact ⟨by rw [HL.out, HB.out]; rfl, ext_of (by (try simp only [ext_ext]); repeat (first | exact Bel.refl _ | assumption | refine bel_and ?_ _ | refine bel_drews ?_ _ | refine Bel.ext ?_ _ | refine Bel.alloc ?_ _ | refine Bel.drewN ?_ _))⟩
      · have HB : Hid (hasB l id = false) := Lib.hid (by rw [HH.out, HL.out, List.getElem?_eq_none (by omega)])
        go_wp2
        go_ret2
        exact ⟨by rw [HL.out, HB.out]; rfl, ext_of (by (try simp only [ext_ext]); repeat (first | exact Bel.refl _ | assumption | refine bel_and ?_ _ | refine bel_drews ?_ _ | refine Bel.ext ?_ _ | refine Bel.alloc ?_ _ | refine Bel.drewN ?_ _))⟩
set_option maxHeartbeats 400000 in
theorem find_any (A : Option Addr) (c : Nat) (l : List Pt) (id : Int) (w : World) (hs : Sl w 3 A l.length c (vp l)) (hl : l.length ≤ 1000000) (hinc : incB l = true) :
    Calls Tryz.prog 47 #[.agg #[.slice A l.length c], .int .i64 id] w fun e w' => e = .returned (.tuple #[.int .i64 (lowB l id), .bool (hasB l id)]) ∧ ∃ x, w' = ext w x := by
  have q := Lib.hid (fun W hb => bsf_any A c l id W (hs.bel (w' := W) hb) hl hinc)
  clear hinc
  go_enter Tryz.func47, Tryz.ntmps47
  go_wp2_with ((go_at_call 62; refine (q.out _ (by (try simp only [ext_ext]); repeat (first | exact Bel.refl _ | assumption | refine bel_and ?_ _ | refine bel_drews ?_ _ | refine Bel.ext ?_ _ | refine Bel.alloc ?_ _ | refine Bel.drewN ?_ _))).mono ?_; rintro e _ ⟨rfl, nx, rfl⟩))
  go_ret2
  exact ⟨rfl, ext_of (by (try simp only [ext_ext]); repeat (first | exact Bel.refl _ | assumption | refine bel_and ?_ _ | refine bel_drews ?_ _ | refine Bel.ext ?_ _ | refine Bel.alloc ?_ _ | refine Bel.drewN ?_ _))⟩
/-- where the point with an ID is; an error -/
def fieldPlace (l : List Pt) (id : Int) : Int × Int := if fieldChk l ≠ 0 then (0, fieldChk l) else if hasB l id then ((lowB l id : Int), 0) else (0, 6)
set_option maxHeartbeats 1000000 in
theorem place_any (A : Option Addr) (c : Nat) (l : List Pt) (id : Int) (w : World) (hs : Sl w 3 A l.length c (vp l)) :
    Calls Tryz.prog 29 #[.agg #[.slice A l.length c], .int .i64 id] w fun e w' => e = .returned (.tuple #[.int .i64 (fieldPlace l id).1, .int .i64 (fieldPlace l id).2]) ∧ ∃ x, w' = ext w x := by
  have q1 := Lib.hid (fun W hb => fieldCheck_any A c l W (hs.bel (w' := W) hb))
  by_cases h0 : fieldChk l = 0
  · obtain ⟨h1, h2, h3⟩ := fieldChk_zero h0
    have q2 := Lib.hid (fun W hb => find_any A c l id W (hs.bel (w' := W) hb) (by omega) h3)
    cases hb : hasB l id with
    | true =>
      have H : Hid (fieldPlace l id = ((lowB l id : Int), 0)) := Lib.hid (by simp [fieldPlace, h0, hb])
      rw [h0] at q1
      rw [hb] at q2
      clear h0 h2 h3 hb
      go_enter Tryz.func29, Tryz.ntmps29
      go_wp2_with (first | (go_at_call 33; refine (q1.out _ (by (try simp only [ext_ext]); repeat (first | exact Bel.refl _ | assumption | refine bel_and ?_ _ | refine bel_drews ?_ _ | refine Bel.ext ?_ _ | refine Bel.alloc ?_ _ | refine Bel.drewN ?_ _))).mono ?_; rintro e _ ⟨rfl, nx, rfl⟩) | (go_at_call 47; refine (q2.out _ (by (try simp only [ext_ext]); repeat (first | exact Bel.refl _ | assumption | refine bel_and ?_ _ | refine bel_drews ?_ _ | refine Bel.ext ?_ _ | refine Bel.alloc ?_ _ | refine Bel.drewN ?_ _))).mono ?_; rintro e _ ⟨rfl, nx, rfl⟩))
      go_ret2
      exact ⟨by rw [H.out]; rfl, ext_of (by (try simp only [ext_ext]); repeat (first | exact Bel.refl _ | assumption | refine bel_and ?_ _ | refine bel_drews ?_ _ | refine Bel.ext ?_ _ | refine Bel.alloc ?_ _ | refine Bel.drewN ?_ _))⟩
    | false =>
      have H : Hid (fieldPlace l id = (0, 6)) := Lib.hid (by simp [fieldPlace, h0, hb])
      rw [h0] at q1
      rw [hb] at q2
      clear h0 h2 h3 hb
      go_enter Tryz.func29, Tryz.ntmps29
      go_wp2_with (first | (go_at_call 33; refine (q1.out _ (by (try simp only [ext_ext]); repeat (first | exact Bel.refl _ | assumption | refine bel_and ?_ _ | refine bel_drews ?_ _ | refine Bel.ext ?_ _ | refine Bel.alloc ?_ _ | refine Bel.drewN ?_ _))).mono ?_; rintro e _ ⟨rfl, nx, rfl⟩) | (go_at_call 47; refine (q2.out _ (by (try simp only [ext_ext]); repeat (first | exact Bel.refl _ | assumption | refine bel_and ?_ _ | refine bel_drews ?_ _ | refine Bel.ext ?_ _ | refine Bel.alloc ?_ _ | refine Bel.drewN ?_ _))).mono ?_; rintro e _ ⟨rfl, nx, rfl⟩))
      go_ret2
      exact ⟨by rw [H.out]; rfl, ext_of (by (try simp only [ext_ext]); repeat (first | exact Bel.refl _ | assumption | refine bel_and ?_ _ | refine bel_drews ?_ _ | refine Bel.ext ?_ _ | refine Bel.alloc ?_ _ | refine Bel.drewN ?_ _))⟩
  · have H : Hid (fieldPlace l id = (0, fieldChk l)) := Lib.hid (by simp [fieldPlace, h0])
    have hz : (fieldChk l == 0) = false := by simpa using h0
    have hz' : (fieldChk l != 0) = true := by simpa using h0
    clear h0
    go_enter Tryz.func29, Tryz.ntmps29
    go_wp2_with ((go_at_call 33; refine (q1.out _ (by (try simp only [ext_ext]); repeat (first | exact Bel.refl _ | assumption | refine bel_and ?_ _ | refine bel_drews ?_ _ | refine Bel.ext ?_ _ | refine Bel.alloc ?_ _ | refine Bel.drewN ?_ _))).mono ?_; rintro e _ ⟨rfl, nx, rfl⟩))
    go_ret2
    exact ⟨by rw [H.out]; rfl, ext_of (by (try simp only [ext_ext]); repeat (first | exact Bel.refl _ | assumption | refine bel_and ?_ _ | refine bel_drews ?_ _ | refine Bel.ext ?_ _ | refine Bel.alloc ?_ _ | refine Bel.drewN ?_ _))⟩
end Go.Proofs.YthopjgahedijcaaGreat

namespace Go.Proofs.YthopjgahedijcaaGreat
open Go.RowKit Go.Pel Go.IntWalk
set_option maxRecDepth 10000 in
set_option maxHeartbeats 1000000 in
theorem clone_any (A : Option Addr) (c : Nat) (l : List Pt) (w : World) (hs : Sl w 3 A l.length c (vp l)) (hn : A = none → c = 0) (hl : l.length ≤ 1000000) :
    Calls Tryz.prog 43 #[.slice A l.length c] w fun e w' => ∃ A' c', e = .returned (.slice A' l.length c') ∧ ∃ x, w' = ext w x ∧ Own (ext w x) w.heap.size 33 3 A' l.length c' (vp l) := by
  have hnil := fun W n c n' c' => Lib.run_eql_slice_nil (P := Tryz.prog) W 22 33 A n c n' c' Tryz.underlying22
  cases A with
  | none =>
    obtain rfl := hn rfl
    obtain rfl : l = [] := by
      cases l with
      | nil => rfl
      | cons p l => obtain ⟨b, o, h, _⟩ := hs.at_ (by simp); cases h
    go_enter Tryz.func43, Tryz.ntmps43
    go_wp2
    go_ret
    exact ⟨none, 0, rfl, ext_nil _ _ _ _⟩
  | some a =>
    go_enter Tryz.func43, Tryz.ntmps43
    go_wp2_with ((at_builtin; (try refine wpList_unguard rfl (by first | rfl | simp [yielded]) ?_); refine append_new slt_pts (by (try simp only [ext_ext]); repeat (first | exact Bel.refl _ | assumption | refine bel_and ?_ _ | refine bel_drews ?_ _ | refine Bel.ext ?_ _ | refine Bel.alloc ?_ _ | refine Bel.drewN ?_ _)) (hs) (by (try simp only [ext_ext]); repeat (first | exact Bel.refl _ | assumption | refine bel_and ?_ _ | refine bel_drews ?_ _ | refine Bel.ext ?_ _ | refine Bel.alloc ?_ _ | refine Bel.drewN ?_ _)) (vp_one _) (hn) (by omega) rfl _ _ rfl rfl rfl (by simp [go_sem]) ?_; rintro A1 c1 y1 hown1))
    go_ret
    exact ⟨_, _, rfl, own_ret (by (try simp only [ext_ext]); repeat (first | exact Bel.refl _ | assumption | refine bel_and ?_ _ | refine bel_drews ?_ _ | refine Bel.ext ?_ _ | refine Bel.alloc ?_ _ | refine Bel.drewN ?_ _)) (own_swap (by simp [go_sem]) hown1 (by simp [go_sem])) (Bel.refl _) (by simp [go_sem])⟩
theorem ins_cells (cur A p M : List Value) (i n : Nat) (hA : cur.take (i * 3) = A) (hc : i * 3 ≤ cur.length) (hp : p.length = 3) (hM : M.length = (n - i) * 3) (hi : i ≤ n) :
    ((cur.take (i * 3) ++ p ++ cur.drop (i * 3 + p.length)).take ((i + 1) * 3) ++ (M ++ (cur.take (i * 3) ++ p ++ cur.drop (i * 3 + p.length)).drop ((i + 1) * 3 + M.length))).take ((n + 1) * 3) = A ++ (p ++ M) := by
  have hAl : A.length = i * 3 := by rw [← hA, List.length_take]; omega
  have e1 : (i + 1) * 3 = (A ++ p).length := by rw [List.length_append, hAl, hp]; omega
  rw [hA, e1, List.take_left]
  have e2 : (n + 1) * 3 = (A ++ p ++ M).length := by rw [List.length_append, ← e1, hM]; omega
  rw [e2, ← List.append_assoc, List.take_left, List.append_assoc]
theorem ins_cells2 (cur A p M : List Value) (i n : Nat) (hi : i ≤ n) (hA : (cur.take (n * 3)).take (i * 3) = A) (hc : (n + 1) * 3 ≤ cur.length) (hp : p.length = 3) (hM : M.length = (n - i) * 3) :
    ((cur.take ((i + 1) * 3) ++ (M ++ cur.drop ((i + 1) * 3 + M.length))).take (i * 3) ++ (p ++ (cur.take ((i + 1) * 3) ++ (M ++ cur.drop ((i + 1) * 3 + M.length))).drop (i * 3 + p.length))).take ((n + 1) * 3) = A ++ (p ++ M) := by
  rw [List.take_take, Nat.min_eq_left (by omega)] at hA
  have hAl : A.length = i * 3 := by rw [← hA, List.length_take]; omega
  have hB : (cur.take ((i + 1) * 3)).length = (i + 1) * 3 := by rw [List.length_take]; omega
  have e0 : (cur.take ((i + 1) * 3) ++ (M ++ cur.drop ((i + 1) * 3 + M.length))).take (i * 3) = A := by
    rw [List.take_append_of_le_length (by omega), List.take_take, Nat.min_eq_left (by omega), hA]
  have e1 : (cur.take ((i + 1) * 3) ++ (M ++ cur.drop ((i + 1) * 3 + M.length))).drop (i * 3 + p.length) = M ++ cur.drop ((i + 1) * 3 + M.length) := by
    rw [show i * 3 + p.length = (cur.take ((i + 1) * 3)).length by omega, List.drop_left]
  rw [e0, e1]
  have e2 : (n + 1) * 3 = (A ++ (p ++ M)).length := by simp only [List.length_append, hAl, hp, hM]; omega
  rw [e2, show A ++ (p ++ (M ++ cur.drop ((i + 1) * 3 + M.length))) = (A ++ (p ++ M)) ++ cur.drop ((i + 1) * 3 + M.length) by simp only [List.append_assoc], List.take_left]
end Go.Proofs.YthopjgahedijcaaGreat

namespace Go.Proofs.YthopjgahedijcaaGreat
open Go.RowKit Go.Pel Go.IntWalk
theorem del_cells (cur A M C1 C2 : List Value) (i m n : Nat) (hi : i < n) (hA : (cur.take (n * 3)).take (i * 3) = A) (hc : n * 3 ≤ cur.length) (hM : M.length = m * 3)
    (h1 : C1 = cur.take (i * 3) ++ (M ++ cur.drop (i * 3 + M.length))) (h2 : C2.take ((i + m) * 3) = C1.take ((i + m) * 3)) : C2.take ((i + m) * 3) = A ++ M := by
  rw [List.take_take, Nat.min_eq_left (by omega)] at hA
  have hAl : A.length = i * 3 := by rw [← hA, List.length_take]; omega
  rw [h2, h1, hA, ← List.append_assoc, show (i + m) * 3 = (A ++ M).length by rw [List.length_append, hAl, hM]; omega, List.take_left]
theorem zpt_run (w : World) : (zeroValue 33).run Tryz.prog w = .ok (.agg #[.int .i64 0, .int .i64 0, .int .i64 0]) w := by kernel_rfl
end Go.Proofs.YthopjgahedijcaaGreat
