/- Walks of the references; the orders agree; examples. -/
import Derived.Test.YtpojhcjdcbegiaaGd
set_option linter.unusedSimpArgs false
set_option linter.unusedVariables false
namespace Go.Proofs.Ytpojhcjdcbegiaa
open Go Go.Tx Go.Proofs.Try
set_option maxRecDepth 100000
set_option maxHeartbeats 0
abbrev course_Check_1_ps : List Pk := [.row Ri false]
abbrev course_Check_1_X : Type := Di × Unit
abbrev course_Check_1_R : Type := Bool
def course_Check_1_enc (r : course_Check_1_R) : LV × List Ob := (.bool r, [])
def course_Check_1_sp (F : course_Check_1_X → Option course_Check_1_R) : Go.Tx.Spec := ⟨106, course_Check_1_ps, course_Check_1_R, F, course_Check_1_enc⟩
abbrev course_Check_1_C : Type := Unit
def course_Check_1_K (_d : Nat) : course_Check_1_C := ()
def course_Check_1_tab (C : course_Check_1_C) : List Go.Tx.Spec := []
abbrev course_Check_1_Y0i : Type := Int
def course_Check_1_S0i (v : course_Check_1_Y0i) : St := ⟨[(0, .int .i64 v)], []⟩
def course_Check_1_r0 (C : course_Check_1_C) (v : course_Check_1_Y0i) : Dt course_Check_1_Y0i := (Dt.ret v)
theorem course_Check_1_g0 (C : course_Check_1_C) (v : course_Check_1_Y0i) : treg tysT (orc (course_Check_1_tab C)) 9 (regO (bodyOf f106) 0) false [(0, .any)] (course_Check_1_S0i v) some = (course_Check_1_r0 C v).eval fun y => some (course_Check_1_S0i y) := by kernel_rfl
abbrev course_Check_1_Y1 : Type := Bool
def course_Check_1_S1 (v : course_Check_1_Y1) : St := ⟨[(2, .bool v)], []⟩
def course_Check_1_r1 (C : course_Check_1_C) (v : course_Check_1_Y0i) : Dt course_Check_1_Y1 := (Dt.ite (decide (v < (-1048576:Int))) (Dt.ret true) (Dt.ret (decide (v > (1048576:Int)))))
theorem course_Check_1_g1 (C : course_Check_1_C) (v : course_Check_1_Y0i) : treg tysT (orc (course_Check_1_tab C)) 9 (regO (bodyOf f106) 1) false [(2, .any)] (course_Check_1_S0i v) some = (course_Check_1_r1 C v).eval fun y => some (course_Check_1_S1 y) := by kernel_rfl
def F_course_Check_1 (d : Nat) (x : course_Check_1_X) : Option course_Check_1_R :=
  (course_Check_1_r0 (course_Check_1_K d) x.1.1).eval fun y0 =>
  (course_Check_1_r1 (course_Check_1_K d) y0).eval fun y1 =>
  some y1
theorem course_Check_1_cok (d : Nat) : COK prog (course_Check_1_sp (F_course_Check_1 d)) := by
  have hm : prog.follows .mixedOrders = true := mixed
  have hT := tys
  have hC0 : OrcOK prog (orc (course_Check_1_tab (course_Check_1_K d))) := orc_ok (by
    intro S hS
    simp only [course_Check_1_tab, List.mem_cons, List.not_mem_nil, or_false] at hS
    all_goals first | cases hS | exact hS.elim)
  have hC : OrcOK prog (orc (course_Check_1_tab (course_Check_1_K d))) := hC0
  refine cok_of (c := bodyOf f106) (fn := f106) hT (by kernel_rfl) (by kernel_rfl) (by decide) fun x r h w0 φ0 Q hend => ?_
  replace h : F_course_Check_1 d x = some r := h
  unfold F_course_Check_1 at h
  show Run prog w0 φ0 9 (bodyOf f106) ⟨[(0, .int .i64 x.1.1)], []⟩ Q
  refine run_seq ?_
  refine run_reg hm hT hC (course_Check_1_g0 (course_Check_1_K d) x.1.1) h ?_
  intro y0 h
  refine cn_then ?_
  refine run_seq ?_
  refine run_reg hm hT hC (course_Check_1_g1 (course_Check_1_K d) y0) h ?_
  intro y1 h
  refine cn_then ?_
  refine run_ret ?_
  cases h
  exact (hend _ (by kernel_rfl)).2
abbrev course_Check_ps : List Pk := [.row Riii true]
abbrev course_Check_X : Type := Diii × Unit
abbrev course_Check_R : Type := Int
def course_Check_enc (r : course_Check_R) : LV × List Ob := (.int .i64 r, [])
def course_Check_sp (F : course_Check_X → Option course_Check_R) : Go.Tx.Spec := ⟨82, course_Check_ps, course_Check_R, F, course_Check_enc⟩
abbrev course_Check_C : Type := (course_Check_1_X → Option course_Check_1_R) × Unit
def course_Check_K (d : Nat) : course_Check_C := (F_course_Check_1 d, ())
def course_Check_tab (C : course_Check_C) : List Go.Tx.Spec := [course_Check_1_sp C.1]
abbrev course_Check_Y0i : Type := Int × Int × Int
def course_Check_S0i (v : course_Check_Y0i) : St := ⟨[(0, .agg [.int .i64 v.1, .int .i64 v.2.1, .int .i64 v.2.2])], []⟩
abbrev course_Check_Y0 : Type := Int × Int × Int
def course_Check_S0 (v : course_Check_Y0) : St := ⟨[(1, .ptr 0 0)], [.cells [.int .i64 v.1, .int .i64 v.2.1, .int .i64 v.2.2]]⟩
def course_Check_r0 (C : course_Check_C) (v : course_Check_Y0i) : Dt course_Check_Y0 := (Dt.ret (v.1, v.2.1, v.2.2))
theorem course_Check_g0 (C : course_Check_C) (v : course_Check_Y0i) : treg tysT (orc (course_Check_tab C)) 24 (regO (bodyOf f82) 0) false [(1, .any)] (course_Check_S0i v) some = (course_Check_r0 C v).eval fun y => some (course_Check_S0 y) := by kernel_rfl
abbrev course_Check_Y1 : Type := Int × Int × Int
def course_Check_S1 (v : course_Check_Y1) : St := ⟨[(1, .ptr 0 0), (3, .fn 106 [])], [.cells [.int .i64 v.1, .int .i64 v.2.1, .int .i64 v.2.2]]⟩
def course_Check_r1 (C : course_Check_C) (v : course_Check_Y0) : Dt course_Check_Y1 := (Dt.ret (v.1, v.2.1, v.2.2))
theorem course_Check_g1 (C : course_Check_C) (v : course_Check_Y0) : treg tysT (orc (course_Check_tab C)) 24 (regO (bodyOf f82) 1) false [(1, .any), (3, .any)] (course_Check_S0 v) some = (course_Check_r1 C v).eval fun y => some (course_Check_S1 y) := by kernel_rfl
abbrev course_Check_Y2 : Type := Bool
def course_Check_S2 (v : course_Check_Y2) : St := ⟨[(23, .bool v)], []⟩
def course_Check_r2 (C : course_Check_C) (v : course_Check_Y1) : Dt course_Check_Y2 := (Dt.ite (decide (v.1 < (0:Int))) (Dt.ret true) (Dt.ite (decide (v.1 > (65535:Int))) (Dt.ret true) (Dt.bnd (C.1 ((v.2.1, ()), ())) fun r1 => (Dt.ite r1 (Dt.ret true) (Dt.bnd (C.1 ((v.2.2, ()), ())) fun r2 => (Dt.ret r2))))))
theorem course_Check_g2 (C : course_Check_C) (v : course_Check_Y1) : treg tysT (orc (course_Check_tab C)) 24 (regO (bodyOf f82) 2) false [(23, .any)] (course_Check_S1 v) some = (course_Check_r2 C v).eval fun y => some (course_Check_S2 y) := by kernel_rfl
abbrev course_Check_Y3 : Type := Int
def course_Check_S3 (v : course_Check_Y3) : St := ⟨[(2, .int .i64 v)], []⟩
def course_Check_r3 (C : course_Check_C) (v : course_Check_Y2) : Dt course_Check_Y3 := (Dt.ret (8:Int))
theorem course_Check_g3 (C : course_Check_C) (v : course_Check_Y2) : treg tysT (orc (course_Check_tab C)) 24 (regO (bodyOf f82) 3) false [(2, .any)] (course_Check_S2 v) some = (course_Check_r3 C v).eval fun y => some (course_Check_S3 y) := by kernel_rfl
def course_Check_r4 (C : course_Check_C) (v : course_Check_Y2) : Dt course_Check_Y3 := (Dt.ret (0:Int))
theorem course_Check_g4 (C : course_Check_C) (v : course_Check_Y2) : treg tysT (orc (course_Check_tab C)) 24 (regO (bodyOf f82) 4) false [(2, .any)] (course_Check_S2 v) some = (course_Check_r4 C v).eval fun y => some (course_Check_S3 y) := by kernel_rfl
def F_course_Check (d : Nat) (x : course_Check_X) : Option course_Check_R :=
  (course_Check_r0 (course_Check_K d) (x.1.1, x.1.2.1, x.1.2.2.1)).eval fun y0 =>
  (course_Check_r1 (course_Check_K d) y0).eval fun y1 =>
  (course_Check_r2 (course_Check_K d) y1).eval fun y2 =>
  bif y2 then ((course_Check_r3 (course_Check_K d) y2).eval fun y3 =>
  some y3) else ((course_Check_r4 (course_Check_K d) y2).eval fun y4 =>
  some y4)
theorem course_Check_cok (d : Nat) : COK prog (course_Check_sp (F_course_Check d)) := by
  have hm : prog.follows .mixedOrders = true := mixed
  have hT := tys
  have hC0 : OrcOK prog (orc (course_Check_tab (course_Check_K d))) := orc_ok (by
    intro S hS
    simp only [course_Check_tab, List.mem_cons, List.not_mem_nil, or_false] at hS
    subst hS; exact course_Check_1_cok d)
  have hC : OrcOK prog (orc (course_Check_tab (course_Check_K d))) := hC0
  refine cok_of (c := bodyOf f82) (fn := f82) hT (by kernel_rfl) (by kernel_rfl) (by decide) fun x r h w0 φ0 Q hend => ?_
  replace h : F_course_Check d x = some r := h
  unfold F_course_Check at h
  show Run prog w0 φ0 24 (bodyOf f82) ⟨[(0, .agg [.int .i64 x.1.1, .int .i64 x.1.2.1, .int .i64 x.1.2.2.1])], []⟩ Q
  refine run_seq ?_
  refine run_reg hm hT hC (course_Check_g0 (course_Check_K d) (x.1.1, x.1.2.1, x.1.2.2.1)) h ?_
  intro y0 h
  refine cn_then ?_
  refine run_seq ?_
  refine run_reg hm hT hC (course_Check_g1 (course_Check_K d) y0) h ?_
  intro y1 h
  refine cn_then ?_
  refine run_seq ?_
  refine run_seq ?_
  refine run_reg hm hT hC (course_Check_g2 (course_Check_K d) y1) h ?_
  intro y2 h
  refine cn_then ?_
  refine run_cond (v := y2) (by kernel_rfl) h ?_ ?_
  ·
    intro h
    refine run_seq ?_
    refine run_reg hm hT hC (course_Check_g3 (course_Check_K d) y2) h ?_
    intro y3 h
    refine cn_then ?_
    refine run_ret ?_
    refine cn_then_ret ?_
    cases h
    exact (hend _ (by kernel_rfl)).2
  ·
    intro h
    refine run_skip ?_
    refine cn_then ?_
    refine run_seq ?_
    refine run_reg hm hT hC (course_Check_g4 (course_Check_K d) y2) h ?_
    intro y4 h
    refine cn_then ?_
    refine run_ret ?_
    cases h
    exact (hend _ (by kernel_rfl)).2
abbrev course_two_ps : List Pk := [.row Riii true, .row Riii true, .row Rii true]
abbrev course_two_X : Type := Diii × Diii × Dii × Unit
abbrev course_two_R : Type := Int
def course_two_enc (r : course_two_R) : LV × List Ob := (.int .i64 r, [])
def course_two_sp (F : course_two_X → Option course_two_R) : Go.Tx.Spec := ⟨76, course_two_ps, course_two_R, F, course_two_enc⟩
abbrev course_two_C : Type := (ratio_Check_X → Option ratio_Check_R) × (course_Check_X → Option course_Check_R) × Unit
def course_two_K (d : Nat) : course_two_C := (F_ratio_Check d, F_course_Check d, ())
def course_two_tab (C : course_two_C) : List Go.Tx.Spec := [ratio_Check_sp C.1, course_Check_sp C.2.1]
abbrev course_two_Y0i : Type := Int × Int × Int × Int × Int × Int × Int × Int
def course_two_S0i (v : course_two_Y0i) : St := ⟨[(0, .agg [.int .i64 v.1, .int .i64 v.2.1, .int .i64 v.2.2.1]), (1, .agg [.int .i64 v.2.2.2.1, .int .i64 v.2.2.2.2.1, .int .i64 v.2.2.2.2.2.1]), (2, .agg [.int .i64 v.2.2.2.2.2.2.1, .int .i64 v.2.2.2.2.2.2.2])], []⟩
abbrev course_two_Y0 : Type := Int × Int × Int × Int × Int × Int × Int × Int
def course_two_S0 (v : course_two_Y0) : St := ⟨[(3, .ptr 0 0), (4, .ptr 1 0), (5, .ptr 2 0)], [.cells [.int .i64 v.1, .int .i64 v.2.1, .int .i64 v.2.2.1], .cells [.int .i64 v.2.2.2.1, .int .i64 v.2.2.2.2.1, .int .i64 v.2.2.2.2.2.1], .cells [.int .i64 v.2.2.2.2.2.2.1, .int .i64 v.2.2.2.2.2.2.2]]⟩
def course_two_r0 (C : course_two_C) (v : course_two_Y0i) : Dt course_two_Y0 := (Dt.ret (v.1, v.2.1, v.2.2.1, v.2.2.2.1, v.2.2.2.2.1, v.2.2.2.2.2.1, v.2.2.2.2.2.2.1, v.2.2.2.2.2.2.2))
theorem course_two_g0 (C : course_two_C) (v : course_two_Y0i) : treg tysT (orc (course_two_tab C)) 23 (regO (bodyOf f76) 0) false [(3, .any), (4, .any), (5, .any)] (course_two_S0i v) some = (course_two_r0 C v).eval fun y => some (course_two_S0 y) := by kernel_rfl
abbrev course_two_Y1 : Type := Int × Int × Int × Int × Int × Int × Int
def course_two_S1 (v : course_two_Y1) : St := ⟨[(3, .ptr 0 0), (4, .ptr 1 0), (7, .int .i64 v.1)], [.cells [.int .i64 v.2.1, .int .i64 v.2.2.1, .int .i64 v.2.2.2.1], .cells [.int .i64 v.2.2.2.2.1, .int .i64 v.2.2.2.2.2.1, .int .i64 v.2.2.2.2.2.2]]⟩
def course_two_r1 (C : course_two_C) (v : course_two_Y0) : Dt course_two_Y1 := (Dt.bnd (C.2.1 ((v.1, v.2.1, v.2.2.1, ()), ())) fun r1 => (Dt.bnd (C.2.1 ((v.2.2.2.1, v.2.2.2.2.1, v.2.2.2.2.2.1, ()), ())) fun r2 => (Dt.bnd (C.1 ((v.2.2.2.2.2.2.1, v.2.2.2.2.2.2.2, ()), ())) fun r3 => (Dt.ret ((tmax (tmax r1 r2) r3), v.1, v.2.1, v.2.2.1, v.2.2.2.1, v.2.2.2.2.1, v.2.2.2.2.2.1)))))
theorem course_two_g1 (C : course_two_C) (v : course_two_Y0) : treg tysT (orc (course_two_tab C)) 23 (regO (bodyOf f76) 1) true [(3, .any), (4, .any), (7, .any)] (course_two_S0 v) some = (course_two_r1 C v).eval fun y => some (course_two_S1 y) := by kernel_rfl
abbrev course_two_Y2 : Type := Int × Bool × Int × Int × Int × Int × Int × Int
def course_two_S2 (v : course_two_Y2) : St := ⟨[(3, .ptr 0 0), (4, .ptr 1 0), (7, .int .i64 v.1), (16, .bool v.2.1)], [.cells [.int .i64 v.2.2.1, .int .i64 v.2.2.2.1, .int .i64 v.2.2.2.2.1], .cells [.int .i64 v.2.2.2.2.2.1, .int .i64 v.2.2.2.2.2.2.1, .int .i64 v.2.2.2.2.2.2.2]]⟩
def course_two_r2 (C : course_two_C) (v : course_two_Y1) : Dt course_two_Y2 := (Dt.ret (v.1, (v.1 != (0:Int)), v.2.1, v.2.2.1, v.2.2.2.1, v.2.2.2.2.1, v.2.2.2.2.2.1, v.2.2.2.2.2.2))
theorem course_two_g2 (C : course_two_C) (v : course_two_Y1) : treg tysT (orc (course_two_tab C)) 23 (regO (bodyOf f76) 2) false [(3, .any), (4, .any), (7, .any), (16, .any)] (course_two_S1 v) some = (course_two_r2 C v).eval fun y => some (course_two_S2 y) := by kernel_rfl
abbrev course_two_Y3 : Type := Int
def course_two_S3 (v : course_two_Y3) : St := ⟨[(6, .int .i64 v)], []⟩
def course_two_r3 (C : course_two_C) (v : course_two_Y2) : Dt course_two_Y3 := (Dt.ret v.1)
theorem course_two_g3 (C : course_two_C) (v : course_two_Y2) : treg tysT (orc (course_two_tab C)) 23 (regO (bodyOf f76) 3) false [(6, .any)] (course_two_S2 v) some = (course_two_r3 C v).eval fun y => some (course_two_S3 y) := by kernel_rfl
abbrev course_two_Y4 : Type := Bool
def course_two_S4 (v : course_two_Y4) : St := ⟨[(22, .bool v)], []⟩
def course_two_r4 (C : course_two_C) (v : course_two_Y2) : Dt course_two_Y4 := (Dt.ret (v.2.2.1 == v.2.2.2.2.2.1))
theorem course_two_g4 (C : course_two_C) (v : course_two_Y2) : treg tysT (orc (course_two_tab C)) 23 (regO (bodyOf f76) 4) false [(22, .any)] (course_two_S2 v) some = (course_two_r4 C v).eval fun y => some (course_two_S4 y) := by kernel_rfl
def course_two_r5 (C : course_two_C) (v : course_two_Y4) : Dt course_two_Y3 := (Dt.ret (2:Int))
theorem course_two_g5 (C : course_two_C) (v : course_two_Y4) : treg tysT (orc (course_two_tab C)) 23 (regO (bodyOf f76) 5) false [(6, .any)] (course_two_S4 v) some = (course_two_r5 C v).eval fun y => some (course_two_S3 y) := by kernel_rfl
def course_two_r6 (C : course_two_C) (v : course_two_Y4) : Dt course_two_Y3 := (Dt.ret (0:Int))
theorem course_two_g6 (C : course_two_C) (v : course_two_Y4) : treg tysT (orc (course_two_tab C)) 23 (regO (bodyOf f76) 6) false [(6, .any)] (course_two_S4 v) some = (course_two_r6 C v).eval fun y => some (course_two_S3 y) := by kernel_rfl
def F_course_two (d : Nat) (x : course_two_X) : Option course_two_R :=
  (course_two_r0 (course_two_K d) (x.1.1, x.1.2.1, x.1.2.2.1, x.2.1.1, x.2.1.2.1, x.2.1.2.2.1, x.2.2.1.1, x.2.2.1.2.1)).eval fun y0 =>
  (course_two_r1 (course_two_K d) y0).eval fun y1 =>
  (course_two_r2 (course_two_K d) y1).eval fun y2 =>
  bif y2.2.1 then ((course_two_r3 (course_two_K d) y2).eval fun y3 =>
  some y3) else ((course_two_r4 (course_two_K d) y2).eval fun y4 =>
  bif y4 then ((course_two_r5 (course_two_K d) y4).eval fun y5 =>
  some y5) else ((course_two_r6 (course_two_K d) y4).eval fun y6 =>
  some y6))
theorem course_two_cok (d : Nat) : COK prog (course_two_sp (F_course_two d)) := by
  have hm : prog.follows .mixedOrders = true := mixed
  have hT := tys
  have hC0 : OrcOK prog (orc (course_two_tab (course_two_K d))) := orc_ok (by
    intro S hS
    simp only [course_two_tab, List.mem_cons, List.not_mem_nil, or_false] at hS
    rcases hS with rfl | rfl
    · exact ratio_Check_cok d
    · exact course_Check_cok d)
  have hC : OrcOK prog (orc (course_two_tab (course_two_K d))) := hC0
  refine cok_of (c := bodyOf f76) (fn := f76) hT (by kernel_rfl) (by kernel_rfl) (by decide) fun x r h w0 φ0 Q hend => ?_
  replace h : F_course_two d x = some r := h
  unfold F_course_two at h
  show Run prog w0 φ0 23 (bodyOf f76) ⟨[(0, .agg [.int .i64 x.1.1, .int .i64 x.1.2.1, .int .i64 x.1.2.2.1]), (1, .agg [.int .i64 x.2.1.1, .int .i64 x.2.1.2.1, .int .i64 x.2.1.2.2.1]), (2, .agg [.int .i64 x.2.2.1.1, .int .i64 x.2.2.1.2.1])], []⟩ Q
  refine run_seq ?_
  refine run_reg hm hT hC (course_two_g0 (course_two_K d) (x.1.1, x.1.2.1, x.1.2.2.1, x.2.1.1, x.2.1.2.1, x.2.1.2.2.1, x.2.2.1.1, x.2.2.1.2.1)) h ?_
  intro y0 h
  refine cn_then ?_
  refine run_seq ?_
  refine run_seq ?_
  refine run_reg hm hT hC (course_two_g1 (course_two_K d) y0) h ?_
  intro y1 h
  refine cn_then ?_
  refine run_seq ?_
  refine run_reg hm hT hC (course_two_g2 (course_two_K d) y1) h ?_
  intro y2 h
  refine cn_then ?_
  refine run_cond (v := y2.2.1) (by kernel_rfl) h ?_ ?_
  ·
    intro h
    refine run_seq ?_
    refine run_reg hm hT hC (course_two_g3 (course_two_K d) y2) h ?_
    intro y3 h
    refine cn_then ?_
    refine run_ret ?_
    refine cn_then_ret ?_
    cases h
    exact (hend _ (by kernel_rfl)).2
  ·
    intro h
    refine run_skip ?_
    refine cn_then ?_
    refine run_seq ?_
    refine run_seq ?_
    refine run_reg hm hT hC (course_two_g4 (course_two_K d) y2) h ?_
    intro y4 h
    refine cn_then ?_
    refine run_cond (v := y4) (by kernel_rfl) h ?_ ?_
    ·
      intro h
      refine run_seq ?_
      refine run_reg hm hT hC (course_two_g5 (course_two_K d) y4) h ?_
      intro y5 h
      refine cn_then ?_
      refine run_ret ?_
      refine cn_then_ret ?_
      cases h
      exact (hend _ (by kernel_rfl)).2
    ·
      intro h
      refine run_skip ?_
      refine cn_then ?_
      refine run_seq ?_
      refine run_reg hm hT hC (course_two_g6 (course_two_K d) y4) h ?_
      intro y6 h
      refine cn_then ?_
      refine run_ret ?_
      cases h
      exact (hend _ (by kernel_rfl)).2
abbrev cmp_isNaN_int64_ps : List Pk := [.row Ri false]
abbrev cmp_isNaN_int64_X : Type := Di × Unit
abbrev cmp_isNaN_int64_R : Type := Bool
def cmp_isNaN_int64_enc (r : cmp_isNaN_int64_R) : LV × List Ob := (.bool r, [])
def cmp_isNaN_int64_sp (F : cmp_isNaN_int64_X → Option cmp_isNaN_int64_R) : Go.Tx.Spec := ⟨121, cmp_isNaN_int64_ps, cmp_isNaN_int64_R, F, cmp_isNaN_int64_enc⟩
abbrev cmp_isNaN_int64_C : Type := Unit
def cmp_isNaN_int64_K (_d : Nat) : cmp_isNaN_int64_C := ()
def cmp_isNaN_int64_tab (C : cmp_isNaN_int64_C) : List Go.Tx.Spec := []
abbrev cmp_isNaN_int64_Y0i : Type := Int
def cmp_isNaN_int64_S0i (v : cmp_isNaN_int64_Y0i) : St := ⟨[(0, .int .i64 v)], []⟩
def cmp_isNaN_int64_r0 (C : cmp_isNaN_int64_C) (v : cmp_isNaN_int64_Y0i) : Dt cmp_isNaN_int64_Y0i := (Dt.ret v)
theorem cmp_isNaN_int64_g0 (C : cmp_isNaN_int64_C) (v : cmp_isNaN_int64_Y0i) : treg tysT (orc (cmp_isNaN_int64_tab C)) 6 (regO (bodyOf f121) 0) false [(0, .any)] (cmp_isNaN_int64_S0i v) some = (cmp_isNaN_int64_r0 C v).eval fun y => some (cmp_isNaN_int64_S0i y) := by kernel_rfl
abbrev cmp_isNaN_int64_Y1 : Type := Bool
def cmp_isNaN_int64_S1 (v : cmp_isNaN_int64_Y1) : St := ⟨[(2, .bool v)], []⟩
def cmp_isNaN_int64_r1 (C : cmp_isNaN_int64_C) (v : cmp_isNaN_int64_Y0i) : Dt cmp_isNaN_int64_Y1 := (Dt.ret (v != v))
theorem cmp_isNaN_int64_g1 (C : cmp_isNaN_int64_C) (v : cmp_isNaN_int64_Y0i) : treg tysT (orc (cmp_isNaN_int64_tab C)) 6 (regO (bodyOf f121) 1) false [(2, .any)] (cmp_isNaN_int64_S0i v) some = (cmp_isNaN_int64_r1 C v).eval fun y => some (cmp_isNaN_int64_S1 y) := by kernel_rfl
def F_cmp_isNaN_int64 (d : Nat) (x : cmp_isNaN_int64_X) : Option cmp_isNaN_int64_R :=
  (cmp_isNaN_int64_r0 (cmp_isNaN_int64_K d) x.1.1).eval fun y0 =>
  (cmp_isNaN_int64_r1 (cmp_isNaN_int64_K d) y0).eval fun y1 =>
  some y1
theorem cmp_isNaN_int64_cok (d : Nat) : COK prog (cmp_isNaN_int64_sp (F_cmp_isNaN_int64 d)) := by
  have hm : prog.follows .mixedOrders = true := mixed
  have hT := tys
  have hC0 : OrcOK prog (orc (cmp_isNaN_int64_tab (cmp_isNaN_int64_K d))) := orc_ok (by
    intro S hS
    simp only [cmp_isNaN_int64_tab, List.mem_cons, List.not_mem_nil, or_false] at hS
    all_goals first | cases hS | exact hS.elim)
  have hC : OrcOK prog (orc (cmp_isNaN_int64_tab (cmp_isNaN_int64_K d))) := hC0
  refine cok_of (c := bodyOf f121) (fn := f121) hT (by kernel_rfl) (by kernel_rfl) (by decide) fun x r h w0 φ0 Q hend => ?_
  replace h : F_cmp_isNaN_int64 d x = some r := h
  unfold F_cmp_isNaN_int64 at h
  show Run prog w0 φ0 6 (bodyOf f121) ⟨[(0, .int .i64 x.1.1)], []⟩ Q
  refine run_seq ?_
  refine run_reg hm hT hC (cmp_isNaN_int64_g0 (cmp_isNaN_int64_K d) x.1.1) h ?_
  intro y0 h
  refine cn_then ?_
  refine run_seq ?_
  refine run_reg hm hT hC (cmp_isNaN_int64_g1 (cmp_isNaN_int64_K d) y0) h ?_
  intro y1 h
  refine cn_then ?_
  refine run_ret ?_
  cases h
  exact (hend _ (by kernel_rfl)).2
abbrev cmp_Compare_int64_ps : List Pk := [.row Ri false, .row Ri false]
abbrev cmp_Compare_int64_X : Type := Di × Di × Unit
abbrev cmp_Compare_int64_R : Type := Int
def cmp_Compare_int64_enc (r : cmp_Compare_int64_R) : LV × List Ob := (.int .i64 r, [])
def cmp_Compare_int64_sp (F : cmp_Compare_int64_X → Option cmp_Compare_int64_R) : Go.Tx.Spec := ⟨92, cmp_Compare_int64_ps, cmp_Compare_int64_R, F, cmp_Compare_int64_enc⟩
abbrev cmp_Compare_int64_C : Type := (cmp_isNaN_int64_X → Option cmp_isNaN_int64_R) × Unit
def cmp_Compare_int64_K (d : Nat) : cmp_Compare_int64_C := (F_cmp_isNaN_int64 d, ())
def cmp_Compare_int64_tab (C : cmp_Compare_int64_C) : List Go.Tx.Spec := [cmp_isNaN_int64_sp C.1]
abbrev cmp_Compare_int64_Y0i : Type := Int × Int
def cmp_Compare_int64_S0i (v : cmp_Compare_int64_Y0i) : St := ⟨[(0, .int .i64 v.1), (1, .int .i64 v.2)], []⟩
def cmp_Compare_int64_r0 (C : cmp_Compare_int64_C) (v : cmp_Compare_int64_Y0i) : Dt cmp_Compare_int64_Y0i := (Dt.ret (v.1, v.2))
theorem cmp_Compare_int64_g0 (C : cmp_Compare_int64_C) (v : cmp_Compare_int64_Y0i) : treg tysT (orc (cmp_Compare_int64_tab C)) 20 (regO (bodyOf f92) 0) false [(0, .any), (1, .any)] (cmp_Compare_int64_S0i v) some = (cmp_Compare_int64_r0 C v).eval fun y => some (cmp_Compare_int64_S0i y) := by kernel_rfl
abbrev cmp_Compare_int64_Y1 : Type := Int × Int × Bool
def cmp_Compare_int64_S1 (v : cmp_Compare_int64_Y1) : St := ⟨[(0, .int .i64 v.1), (1, .int .i64 v.2.1), (5, .bool v.2.2)], []⟩
def cmp_Compare_int64_r1 (C : cmp_Compare_int64_C) (v : cmp_Compare_int64_Y0i) : Dt cmp_Compare_int64_Y1 := (Dt.bnd (C.1 ((v.1, ()), ())) fun r1 => (Dt.ret (v.1, v.2, r1)))
theorem cmp_Compare_int64_g1 (C : cmp_Compare_int64_C) (v : cmp_Compare_int64_Y0i) : treg tysT (orc (cmp_Compare_int64_tab C)) 20 (regO (bodyOf f92) 1) false [(0, .any), (1, .any), (5, .any)] (cmp_Compare_int64_S0i v) some = (cmp_Compare_int64_r1 C v).eval fun y => some (cmp_Compare_int64_S1 y) := by kernel_rfl
abbrev cmp_Compare_int64_Y2 : Type := Int × Int × Bool × Bool
def cmp_Compare_int64_S2 (v : cmp_Compare_int64_Y2) : St := ⟨[(0, .int .i64 v.1), (1, .int .i64 v.2.1), (5, .bool v.2.2.1), (6, .bool v.2.2.2)], []⟩
def cmp_Compare_int64_r2 (C : cmp_Compare_int64_C) (v : cmp_Compare_int64_Y1) : Dt cmp_Compare_int64_Y2 := (Dt.bnd (C.1 ((v.2.1, ()), ())) fun r1 => (Dt.ret (v.1, v.2.1, v.2.2, r1)))
theorem cmp_Compare_int64_g2 (C : cmp_Compare_int64_C) (v : cmp_Compare_int64_Y1) : treg tysT (orc (cmp_Compare_int64_tab C)) 20 (regO (bodyOf f92) 2) false [(0, .any), (1, .any), (5, .any), (6, .any)] (cmp_Compare_int64_S1 v) some = (cmp_Compare_int64_r2 C v).eval fun y => some (cmp_Compare_int64_S2 y) := by kernel_rfl
abbrev cmp_Compare_int64_Y3 : Type := Int × Int × Bool × Bool
def cmp_Compare_int64_S3 (v : cmp_Compare_int64_Y3) : St := ⟨[(0, .int .i64 v.1), (1, .int .i64 v.2.1), (6, .bool v.2.2.1), (11, .bool v.2.2.2)], []⟩
def cmp_Compare_int64_r3 (C : cmp_Compare_int64_C) (v : cmp_Compare_int64_Y2) : Dt cmp_Compare_int64_Y3 := (Dt.ret (v.1, v.2.1, v.2.2.2, v.2.2.1))
theorem cmp_Compare_int64_g3 (C : cmp_Compare_int64_C) (v : cmp_Compare_int64_Y2) : treg tysT (orc (cmp_Compare_int64_tab C)) 20 (regO (bodyOf f92) 3) false [(0, .any), (1, .any), (6, .any), (11, .any)] (cmp_Compare_int64_S2 v) some = (cmp_Compare_int64_r3 C v).eval fun y => some (cmp_Compare_int64_S3 y) := by kernel_rfl
abbrev cmp_Compare_int64_Y4 : Type := Bool
def cmp_Compare_int64_S4 (v : cmp_Compare_int64_Y4) : St := ⟨[(12, .bool v)], []⟩
def cmp_Compare_int64_r4 (C : cmp_Compare_int64_C) (v : cmp_Compare_int64_Y3) : Dt cmp_Compare_int64_Y4 := (Dt.ret v.2.2.1)
theorem cmp_Compare_int64_g4 (C : cmp_Compare_int64_C) (v : cmp_Compare_int64_Y3) : treg tysT (orc (cmp_Compare_int64_tab C)) 20 (regO (bodyOf f92) 4) false [(12, .any)] (cmp_Compare_int64_S3 v) some = (cmp_Compare_int64_r4 C v).eval fun y => some (cmp_Compare_int64_S4 y) := by kernel_rfl
abbrev cmp_Compare_int64_Y5 : Type := Int
def cmp_Compare_int64_S5 (v : cmp_Compare_int64_Y5) : St := ⟨[(4, .int .i64 v)], []⟩
def cmp_Compare_int64_r5 (C : cmp_Compare_int64_C) (v : cmp_Compare_int64_Y4) : Dt cmp_Compare_int64_Y5 := (Dt.ret (0:Int))
theorem cmp_Compare_int64_g5 (C : cmp_Compare_int64_C) (v : cmp_Compare_int64_Y4) : treg tysT (orc (cmp_Compare_int64_tab C)) 20 (regO (bodyOf f92) 5) false [(4, .any)] (cmp_Compare_int64_S4 v) some = (cmp_Compare_int64_r5 C v).eval fun y => some (cmp_Compare_int64_S5 y) := by kernel_rfl
def cmp_Compare_int64_r6 (C : cmp_Compare_int64_C) (v : cmp_Compare_int64_Y4) : Dt cmp_Compare_int64_Y5 := (Dt.ret (-1:Int))
theorem cmp_Compare_int64_g6 (C : cmp_Compare_int64_C) (v : cmp_Compare_int64_Y4) : treg tysT (orc (cmp_Compare_int64_tab C)) 20 (regO (bodyOf f92) 6) false [(4, .any)] (cmp_Compare_int64_S4 v) some = (cmp_Compare_int64_r6 C v).eval fun y => some (cmp_Compare_int64_S5 y) := by kernel_rfl
abbrev cmp_Compare_int64_Y7 : Type := Int × Int × Bool
def cmp_Compare_int64_S7 (v : cmp_Compare_int64_Y7) : St := ⟨[(0, .int .i64 v.1), (1, .int .i64 v.2.1), (13, .bool v.2.2)], []⟩
def cmp_Compare_int64_r7 (C : cmp_Compare_int64_C) (v : cmp_Compare_int64_Y3) : Dt cmp_Compare_int64_Y7 := (Dt.ret (v.1, v.2.1, v.2.2.1))
theorem cmp_Compare_int64_g7 (C : cmp_Compare_int64_C) (v : cmp_Compare_int64_Y3) : treg tysT (orc (cmp_Compare_int64_tab C)) 20 (regO (bodyOf f92) 7) false [(0, .any), (1, .any), (13, .any)] (cmp_Compare_int64_S3 v) some = (cmp_Compare_int64_r7 C v).eval fun y => some (cmp_Compare_int64_S7 y) := by kernel_rfl
def cmp_Compare_int64_r8 (C : cmp_Compare_int64_C) (v : cmp_Compare_int64_Y7) : Dt cmp_Compare_int64_Y5 := (Dt.ret (1:Int))
theorem cmp_Compare_int64_g8 (C : cmp_Compare_int64_C) (v : cmp_Compare_int64_Y7) : treg tysT (orc (cmp_Compare_int64_tab C)) 20 (regO (bodyOf f92) 8) false [(4, .any)] (cmp_Compare_int64_S7 v) some = (cmp_Compare_int64_r8 C v).eval fun y => some (cmp_Compare_int64_S5 y) := by kernel_rfl
abbrev cmp_Compare_int64_Y9 : Type := Int × Int × Bool
def cmp_Compare_int64_S9 (v : cmp_Compare_int64_Y9) : St := ⟨[(0, .int .i64 v.1), (1, .int .i64 v.2.1), (16, .bool v.2.2)], []⟩
def cmp_Compare_int64_r9 (C : cmp_Compare_int64_C) (v : cmp_Compare_int64_Y7) : Dt cmp_Compare_int64_Y9 := (Dt.ret (v.1, v.2.1, (decide (v.1 < v.2.1))))
theorem cmp_Compare_int64_g9 (C : cmp_Compare_int64_C) (v : cmp_Compare_int64_Y7) : treg tysT (orc (cmp_Compare_int64_tab C)) 20 (regO (bodyOf f92) 9) false [(0, .any), (1, .any), (16, .any)] (cmp_Compare_int64_S7 v) some = (cmp_Compare_int64_r9 C v).eval fun y => some (cmp_Compare_int64_S9 y) := by kernel_rfl
def cmp_Compare_int64_r10 (C : cmp_Compare_int64_C) (v : cmp_Compare_int64_Y9) : Dt cmp_Compare_int64_Y5 := (Dt.ret (-1:Int))
theorem cmp_Compare_int64_g10 (C : cmp_Compare_int64_C) (v : cmp_Compare_int64_Y9) : treg tysT (orc (cmp_Compare_int64_tab C)) 20 (regO (bodyOf f92) 10) false [(4, .any)] (cmp_Compare_int64_S9 v) some = (cmp_Compare_int64_r10 C v).eval fun y => some (cmp_Compare_int64_S5 y) := by kernel_rfl
abbrev cmp_Compare_int64_Y11 : Type := Bool
def cmp_Compare_int64_S11 (v : cmp_Compare_int64_Y11) : St := ⟨[(19, .bool v)], []⟩
def cmp_Compare_int64_r11 (C : cmp_Compare_int64_C) (v : cmp_Compare_int64_Y9) : Dt cmp_Compare_int64_Y11 := (Dt.ret (decide (v.1 > v.2.1)))
theorem cmp_Compare_int64_g11 (C : cmp_Compare_int64_C) (v : cmp_Compare_int64_Y9) : treg tysT (orc (cmp_Compare_int64_tab C)) 20 (regO (bodyOf f92) 11) false [(19, .any)] (cmp_Compare_int64_S9 v) some = (cmp_Compare_int64_r11 C v).eval fun y => some (cmp_Compare_int64_S11 y) := by kernel_rfl
def cmp_Compare_int64_r12 (C : cmp_Compare_int64_C) (v : cmp_Compare_int64_Y11) : Dt cmp_Compare_int64_Y5 := (Dt.ret (1:Int))
theorem cmp_Compare_int64_g12 (C : cmp_Compare_int64_C) (v : cmp_Compare_int64_Y11) : treg tysT (orc (cmp_Compare_int64_tab C)) 20 (regO (bodyOf f92) 12) false [(4, .any)] (cmp_Compare_int64_S11 v) some = (cmp_Compare_int64_r12 C v).eval fun y => some (cmp_Compare_int64_S5 y) := by kernel_rfl
def cmp_Compare_int64_r13 (C : cmp_Compare_int64_C) (v : cmp_Compare_int64_Y11) : Dt cmp_Compare_int64_Y5 := (Dt.ret (0:Int))
theorem cmp_Compare_int64_g13 (C : cmp_Compare_int64_C) (v : cmp_Compare_int64_Y11) : treg tysT (orc (cmp_Compare_int64_tab C)) 20 (regO (bodyOf f92) 13) false [(4, .any)] (cmp_Compare_int64_S11 v) some = (cmp_Compare_int64_r13 C v).eval fun y => some (cmp_Compare_int64_S5 y) := by kernel_rfl
def F_cmp_Compare_int64 (d : Nat) (x : cmp_Compare_int64_X) : Option cmp_Compare_int64_R :=
  (cmp_Compare_int64_r0 (cmp_Compare_int64_K d) (x.1.1, x.2.1.1)).eval fun y0 =>
  (cmp_Compare_int64_r1 (cmp_Compare_int64_K d) y0).eval fun y1 =>
  (cmp_Compare_int64_r2 (cmp_Compare_int64_K d) y1).eval fun y2 =>
  (cmp_Compare_int64_r3 (cmp_Compare_int64_K d) y2).eval fun y3 =>
  bif y3.2.2.2 then ((cmp_Compare_int64_r4 (cmp_Compare_int64_K d) y3).eval fun y4 =>
  bif y4 then ((cmp_Compare_int64_r5 (cmp_Compare_int64_K d) y4).eval fun y5 =>
  some y5) else ((cmp_Compare_int64_r6 (cmp_Compare_int64_K d) y4).eval fun y6 =>
  some y6)) else ((cmp_Compare_int64_r7 (cmp_Compare_int64_K d) y3).eval fun y7 =>
  bif y7.2.2 then ((cmp_Compare_int64_r8 (cmp_Compare_int64_K d) y7).eval fun y8 =>
  some y8) else ((cmp_Compare_int64_r9 (cmp_Compare_int64_K d) y7).eval fun y9 =>
  bif y9.2.2 then ((cmp_Compare_int64_r10 (cmp_Compare_int64_K d) y9).eval fun y10 =>
  some y10) else ((cmp_Compare_int64_r11 (cmp_Compare_int64_K d) y9).eval fun y11 =>
  bif y11 then ((cmp_Compare_int64_r12 (cmp_Compare_int64_K d) y11).eval fun y12 =>
  some y12) else ((cmp_Compare_int64_r13 (cmp_Compare_int64_K d) y11).eval fun y13 =>
  some y13))))
theorem cmp_Compare_int64_cok (d : Nat) : COK prog (cmp_Compare_int64_sp (F_cmp_Compare_int64 d)) := by
  have hm : prog.follows .mixedOrders = true := mixed
  have hT := tys
  have hC0 : OrcOK prog (orc (cmp_Compare_int64_tab (cmp_Compare_int64_K d))) := orc_ok (by
    intro S hS
    simp only [cmp_Compare_int64_tab, List.mem_cons, List.not_mem_nil, or_false] at hS
    subst hS; exact cmp_isNaN_int64_cok d)
  have hC : OrcOK prog (orc (cmp_Compare_int64_tab (cmp_Compare_int64_K d))) := hC0
  refine cok_of (c := bodyOf f92) (fn := f92) hT (by kernel_rfl) (by kernel_rfl) (by decide) fun x r h w0 φ0 Q hend => ?_
  replace h : F_cmp_Compare_int64 d x = some r := h
  unfold F_cmp_Compare_int64 at h
  show Run prog w0 φ0 20 (bodyOf f92) ⟨[(0, .int .i64 x.1.1), (1, .int .i64 x.2.1.1)], []⟩ Q
  refine run_seq ?_
  refine run_reg hm hT hC (cmp_Compare_int64_g0 (cmp_Compare_int64_K d) (x.1.1, x.2.1.1)) h ?_
  intro y0 h
  refine cn_then ?_
  refine run_seq ?_
  refine run_reg hm hT hC (cmp_Compare_int64_g1 (cmp_Compare_int64_K d) y0) h ?_
  intro y1 h
  refine cn_then ?_
  refine run_seq ?_
  refine run_reg hm hT hC (cmp_Compare_int64_g2 (cmp_Compare_int64_K d) y1) h ?_
  intro y2 h
  refine cn_then ?_
  refine run_seq ?_
  refine run_seq ?_
  refine run_reg hm hT hC (cmp_Compare_int64_g3 (cmp_Compare_int64_K d) y2) h ?_
  intro y3 h
  refine cn_then ?_
  refine run_cond (v := y3.2.2.2) (by kernel_rfl) h ?_ ?_
  ·
    intro h
    refine run_seq ?_
    refine run_seq ?_
    refine run_reg hm hT hC (cmp_Compare_int64_g4 (cmp_Compare_int64_K d) y3) h ?_
    intro y4 h
    refine cn_then ?_
    refine run_cond (v := y4) (by kernel_rfl) h ?_ ?_
    ·
      intro h
      refine run_seq ?_
      refine run_reg hm hT hC (cmp_Compare_int64_g5 (cmp_Compare_int64_K d) y4) h ?_
      intro y5 h
      refine cn_then ?_
      refine run_ret ?_
      refine cn_then_ret ?_
      refine cn_then_ret ?_
      cases h
      exact (hend _ (by kernel_rfl)).2
    ·
      intro h
      refine run_skip ?_
      refine cn_then ?_
      refine run_seq ?_
      refine run_reg hm hT hC (cmp_Compare_int64_g6 (cmp_Compare_int64_K d) y4) h ?_
      intro y6 h
      refine cn_then ?_
      refine run_ret ?_
      refine cn_then_ret ?_
      cases h
      exact (hend _ (by kernel_rfl)).2
  ·
    intro h
    refine run_skip ?_
    refine cn_then ?_
    refine run_seq ?_
    refine run_seq ?_
    refine run_reg hm hT hC (cmp_Compare_int64_g7 (cmp_Compare_int64_K d) y3) h ?_
    intro y7 h
    refine cn_then ?_
    refine run_cond (v := y7.2.2) (by kernel_rfl) h ?_ ?_
    ·
      intro h
      refine run_seq ?_
      refine run_reg hm hT hC (cmp_Compare_int64_g8 (cmp_Compare_int64_K d) y7) h ?_
      intro y8 h
      refine cn_then ?_
      refine run_ret ?_
      refine cn_then_ret ?_
      cases h
      exact (hend _ (by kernel_rfl)).2
    ·
      intro h
      refine run_skip ?_
      refine cn_then ?_
      refine run_seq ?_
      refine run_seq ?_
      refine run_reg hm hT hC (cmp_Compare_int64_g9 (cmp_Compare_int64_K d) y7) h ?_
      intro y9 h
      refine cn_then ?_
      refine run_cond (v := y9.2.2) (by kernel_rfl) h ?_ ?_
      ·
        intro h
        refine run_seq ?_
        refine run_reg hm hT hC (cmp_Compare_int64_g10 (cmp_Compare_int64_K d) y9) h ?_
        intro y10 h
        refine cn_then ?_
        refine run_ret ?_
        refine cn_then_ret ?_
        cases h
        exact (hend _ (by kernel_rfl)).2
      ·
        intro h
        refine run_skip ?_
        refine cn_then ?_
        refine run_seq ?_
        refine run_seq ?_
        refine run_reg hm hT hC (cmp_Compare_int64_g11 (cmp_Compare_int64_K d) y9) h ?_
        intro y11 h
        refine cn_then ?_
        refine run_cond (v := y11) (by kernel_rfl) h ?_ ?_
        ·
          intro h
          refine run_seq ?_
          refine run_reg hm hT hC (cmp_Compare_int64_g12 (cmp_Compare_int64_K d) y11) h ?_
          intro y12 h
          refine cn_then ?_
          refine run_ret ?_
          refine cn_then_ret ?_
          cases h
          exact (hend _ (by kernel_rfl)).2
        ·
          intro h
          refine run_skip ?_
          refine cn_then ?_
          refine run_seq ?_
          refine run_reg hm hT hC (cmp_Compare_int64_g13 (cmp_Compare_int64_K d) y11) h ?_
          intro y13 h
          refine cn_then ?_
          refine run_ret ?_
          cases h
          exact (hend _ (by kernel_rfl)).2
abbrev cmp_isNaN_int_ps : List Pk := [.row Ri false]
abbrev cmp_isNaN_int_X : Type := Di × Unit
abbrev cmp_isNaN_int_R : Type := Bool
def cmp_isNaN_int_enc (r : cmp_isNaN_int_R) : LV × List Ob := (.bool r, [])
def cmp_isNaN_int_sp (F : cmp_isNaN_int_X → Option cmp_isNaN_int_R) : Go.Tx.Spec := ⟨107, cmp_isNaN_int_ps, cmp_isNaN_int_R, F, cmp_isNaN_int_enc⟩
abbrev cmp_isNaN_int_C : Type := Unit
def cmp_isNaN_int_K (_d : Nat) : cmp_isNaN_int_C := ()
def cmp_isNaN_int_tab (C : cmp_isNaN_int_C) : List Go.Tx.Spec := []
abbrev cmp_isNaN_int_Y0i : Type := Int
def cmp_isNaN_int_S0i (v : cmp_isNaN_int_Y0i) : St := ⟨[(0, .int .i64 v)], []⟩
def cmp_isNaN_int_r0 (C : cmp_isNaN_int_C) (v : cmp_isNaN_int_Y0i) : Dt cmp_isNaN_int_Y0i := (Dt.ret v)
theorem cmp_isNaN_int_g0 (C : cmp_isNaN_int_C) (v : cmp_isNaN_int_Y0i) : treg tysT (orc (cmp_isNaN_int_tab C)) 6 (regO (bodyOf f107) 0) false [(0, .any)] (cmp_isNaN_int_S0i v) some = (cmp_isNaN_int_r0 C v).eval fun y => some (cmp_isNaN_int_S0i y) := by kernel_rfl
abbrev cmp_isNaN_int_Y1 : Type := Bool
def cmp_isNaN_int_S1 (v : cmp_isNaN_int_Y1) : St := ⟨[(2, .bool v)], []⟩
def cmp_isNaN_int_r1 (C : cmp_isNaN_int_C) (v : cmp_isNaN_int_Y0i) : Dt cmp_isNaN_int_Y1 := (Dt.ret (v != v))
theorem cmp_isNaN_int_g1 (C : cmp_isNaN_int_C) (v : cmp_isNaN_int_Y0i) : treg tysT (orc (cmp_isNaN_int_tab C)) 6 (regO (bodyOf f107) 1) false [(2, .any)] (cmp_isNaN_int_S0i v) some = (cmp_isNaN_int_r1 C v).eval fun y => some (cmp_isNaN_int_S1 y) := by kernel_rfl
def F_cmp_isNaN_int (d : Nat) (x : cmp_isNaN_int_X) : Option cmp_isNaN_int_R :=
  (cmp_isNaN_int_r0 (cmp_isNaN_int_K d) x.1.1).eval fun y0 =>
  (cmp_isNaN_int_r1 (cmp_isNaN_int_K d) y0).eval fun y1 =>
  some y1
theorem cmp_isNaN_int_cok (d : Nat) : COK prog (cmp_isNaN_int_sp (F_cmp_isNaN_int d)) := by
  have hm : prog.follows .mixedOrders = true := mixed
  have hT := tys
  have hC0 : OrcOK prog (orc (cmp_isNaN_int_tab (cmp_isNaN_int_K d))) := orc_ok (by
    intro S hS
    simp only [cmp_isNaN_int_tab, List.mem_cons, List.not_mem_nil, or_false] at hS
    all_goals first | cases hS | exact hS.elim)
  have hC : OrcOK prog (orc (cmp_isNaN_int_tab (cmp_isNaN_int_K d))) := hC0
  refine cok_of (c := bodyOf f107) (fn := f107) hT (by kernel_rfl) (by kernel_rfl) (by decide) fun x r h w0 φ0 Q hend => ?_
  replace h : F_cmp_isNaN_int d x = some r := h
  unfold F_cmp_isNaN_int at h
  show Run prog w0 φ0 6 (bodyOf f107) ⟨[(0, .int .i64 x.1.1)], []⟩ Q
  refine run_seq ?_
  refine run_reg hm hT hC (cmp_isNaN_int_g0 (cmp_isNaN_int_K d) x.1.1) h ?_
  intro y0 h
  refine cn_then ?_
  refine run_seq ?_
  refine run_reg hm hT hC (cmp_isNaN_int_g1 (cmp_isNaN_int_K d) y0) h ?_
  intro y1 h
  refine cn_then ?_
  refine run_ret ?_
  cases h
  exact (hend _ (by kernel_rfl)).2
abbrev cmp_Compare_int_ps : List Pk := [.row Ri false, .row Ri false]
abbrev cmp_Compare_int_X : Type := Di × Di × Unit
abbrev cmp_Compare_int_R : Type := Int
def cmp_Compare_int_enc (r : cmp_Compare_int_R) : LV × List Ob := (.int .i64 r, [])
def cmp_Compare_int_sp (F : cmp_Compare_int_X → Option cmp_Compare_int_R) : Go.Tx.Spec := ⟨85, cmp_Compare_int_ps, cmp_Compare_int_R, F, cmp_Compare_int_enc⟩
abbrev cmp_Compare_int_C : Type := (cmp_isNaN_int_X → Option cmp_isNaN_int_R) × Unit
def cmp_Compare_int_K (d : Nat) : cmp_Compare_int_C := (F_cmp_isNaN_int d, ())
def cmp_Compare_int_tab (C : cmp_Compare_int_C) : List Go.Tx.Spec := [cmp_isNaN_int_sp C.1]
abbrev cmp_Compare_int_Y0i : Type := Int × Int
def cmp_Compare_int_S0i (v : cmp_Compare_int_Y0i) : St := ⟨[(0, .int .i64 v.1), (1, .int .i64 v.2)], []⟩
def cmp_Compare_int_r0 (C : cmp_Compare_int_C) (v : cmp_Compare_int_Y0i) : Dt cmp_Compare_int_Y0i := (Dt.ret (v.1, v.2))
theorem cmp_Compare_int_g0 (C : cmp_Compare_int_C) (v : cmp_Compare_int_Y0i) : treg tysT (orc (cmp_Compare_int_tab C)) 20 (regO (bodyOf f85) 0) false [(0, .any), (1, .any)] (cmp_Compare_int_S0i v) some = (cmp_Compare_int_r0 C v).eval fun y => some (cmp_Compare_int_S0i y) := by kernel_rfl
abbrev cmp_Compare_int_Y1 : Type := Int × Int × Bool
def cmp_Compare_int_S1 (v : cmp_Compare_int_Y1) : St := ⟨[(0, .int .i64 v.1), (1, .int .i64 v.2.1), (5, .bool v.2.2)], []⟩
def cmp_Compare_int_r1 (C : cmp_Compare_int_C) (v : cmp_Compare_int_Y0i) : Dt cmp_Compare_int_Y1 := (Dt.bnd (C.1 ((v.1, ()), ())) fun r1 => (Dt.ret (v.1, v.2, r1)))
theorem cmp_Compare_int_g1 (C : cmp_Compare_int_C) (v : cmp_Compare_int_Y0i) : treg tysT (orc (cmp_Compare_int_tab C)) 20 (regO (bodyOf f85) 1) false [(0, .any), (1, .any), (5, .any)] (cmp_Compare_int_S0i v) some = (cmp_Compare_int_r1 C v).eval fun y => some (cmp_Compare_int_S1 y) := by kernel_rfl
abbrev cmp_Compare_int_Y2 : Type := Int × Int × Bool × Bool
def cmp_Compare_int_S2 (v : cmp_Compare_int_Y2) : St := ⟨[(0, .int .i64 v.1), (1, .int .i64 v.2.1), (5, .bool v.2.2.1), (6, .bool v.2.2.2)], []⟩
def cmp_Compare_int_r2 (C : cmp_Compare_int_C) (v : cmp_Compare_int_Y1) : Dt cmp_Compare_int_Y2 := (Dt.bnd (C.1 ((v.2.1, ()), ())) fun r1 => (Dt.ret (v.1, v.2.1, v.2.2, r1)))
theorem cmp_Compare_int_g2 (C : cmp_Compare_int_C) (v : cmp_Compare_int_Y1) : treg tysT (orc (cmp_Compare_int_tab C)) 20 (regO (bodyOf f85) 2) false [(0, .any), (1, .any), (5, .any), (6, .any)] (cmp_Compare_int_S1 v) some = (cmp_Compare_int_r2 C v).eval fun y => some (cmp_Compare_int_S2 y) := by kernel_rfl
abbrev cmp_Compare_int_Y3 : Type := Int × Int × Bool × Bool
def cmp_Compare_int_S3 (v : cmp_Compare_int_Y3) : St := ⟨[(0, .int .i64 v.1), (1, .int .i64 v.2.1), (6, .bool v.2.2.1), (11, .bool v.2.2.2)], []⟩
def cmp_Compare_int_r3 (C : cmp_Compare_int_C) (v : cmp_Compare_int_Y2) : Dt cmp_Compare_int_Y3 := (Dt.ret (v.1, v.2.1, v.2.2.2, v.2.2.1))
theorem cmp_Compare_int_g3 (C : cmp_Compare_int_C) (v : cmp_Compare_int_Y2) : treg tysT (orc (cmp_Compare_int_tab C)) 20 (regO (bodyOf f85) 3) false [(0, .any), (1, .any), (6, .any), (11, .any)] (cmp_Compare_int_S2 v) some = (cmp_Compare_int_r3 C v).eval fun y => some (cmp_Compare_int_S3 y) := by kernel_rfl
abbrev cmp_Compare_int_Y4 : Type := Bool
def cmp_Compare_int_S4 (v : cmp_Compare_int_Y4) : St := ⟨[(12, .bool v)], []⟩
def cmp_Compare_int_r4 (C : cmp_Compare_int_C) (v : cmp_Compare_int_Y3) : Dt cmp_Compare_int_Y4 := (Dt.ret v.2.2.1)
theorem cmp_Compare_int_g4 (C : cmp_Compare_int_C) (v : cmp_Compare_int_Y3) : treg tysT (orc (cmp_Compare_int_tab C)) 20 (regO (bodyOf f85) 4) false [(12, .any)] (cmp_Compare_int_S3 v) some = (cmp_Compare_int_r4 C v).eval fun y => some (cmp_Compare_int_S4 y) := by kernel_rfl
abbrev cmp_Compare_int_Y5 : Type := Int
def cmp_Compare_int_S5 (v : cmp_Compare_int_Y5) : St := ⟨[(4, .int .i64 v)], []⟩
def cmp_Compare_int_r5 (C : cmp_Compare_int_C) (v : cmp_Compare_int_Y4) : Dt cmp_Compare_int_Y5 := (Dt.ret (0:Int))
theorem cmp_Compare_int_g5 (C : cmp_Compare_int_C) (v : cmp_Compare_int_Y4) : treg tysT (orc (cmp_Compare_int_tab C)) 20 (regO (bodyOf f85) 5) false [(4, .any)] (cmp_Compare_int_S4 v) some = (cmp_Compare_int_r5 C v).eval fun y => some (cmp_Compare_int_S5 y) := by kernel_rfl
def cmp_Compare_int_r6 (C : cmp_Compare_int_C) (v : cmp_Compare_int_Y4) : Dt cmp_Compare_int_Y5 := (Dt.ret (-1:Int))
theorem cmp_Compare_int_g6 (C : cmp_Compare_int_C) (v : cmp_Compare_int_Y4) : treg tysT (orc (cmp_Compare_int_tab C)) 20 (regO (bodyOf f85) 6) false [(4, .any)] (cmp_Compare_int_S4 v) some = (cmp_Compare_int_r6 C v).eval fun y => some (cmp_Compare_int_S5 y) := by kernel_rfl
abbrev cmp_Compare_int_Y7 : Type := Int × Int × Bool
def cmp_Compare_int_S7 (v : cmp_Compare_int_Y7) : St := ⟨[(0, .int .i64 v.1), (1, .int .i64 v.2.1), (13, .bool v.2.2)], []⟩
def cmp_Compare_int_r7 (C : cmp_Compare_int_C) (v : cmp_Compare_int_Y3) : Dt cmp_Compare_int_Y7 := (Dt.ret (v.1, v.2.1, v.2.2.1))
theorem cmp_Compare_int_g7 (C : cmp_Compare_int_C) (v : cmp_Compare_int_Y3) : treg tysT (orc (cmp_Compare_int_tab C)) 20 (regO (bodyOf f85) 7) false [(0, .any), (1, .any), (13, .any)] (cmp_Compare_int_S3 v) some = (cmp_Compare_int_r7 C v).eval fun y => some (cmp_Compare_int_S7 y) := by kernel_rfl
def cmp_Compare_int_r8 (C : cmp_Compare_int_C) (v : cmp_Compare_int_Y7) : Dt cmp_Compare_int_Y5 := (Dt.ret (1:Int))
theorem cmp_Compare_int_g8 (C : cmp_Compare_int_C) (v : cmp_Compare_int_Y7) : treg tysT (orc (cmp_Compare_int_tab C)) 20 (regO (bodyOf f85) 8) false [(4, .any)] (cmp_Compare_int_S7 v) some = (cmp_Compare_int_r8 C v).eval fun y => some (cmp_Compare_int_S5 y) := by kernel_rfl
abbrev cmp_Compare_int_Y9 : Type := Int × Int × Bool
def cmp_Compare_int_S9 (v : cmp_Compare_int_Y9) : St := ⟨[(0, .int .i64 v.1), (1, .int .i64 v.2.1), (16, .bool v.2.2)], []⟩
def cmp_Compare_int_r9 (C : cmp_Compare_int_C) (v : cmp_Compare_int_Y7) : Dt cmp_Compare_int_Y9 := (Dt.ret (v.1, v.2.1, (decide (v.1 < v.2.1))))
theorem cmp_Compare_int_g9 (C : cmp_Compare_int_C) (v : cmp_Compare_int_Y7) : treg tysT (orc (cmp_Compare_int_tab C)) 20 (regO (bodyOf f85) 9) false [(0, .any), (1, .any), (16, .any)] (cmp_Compare_int_S7 v) some = (cmp_Compare_int_r9 C v).eval fun y => some (cmp_Compare_int_S9 y) := by kernel_rfl
def cmp_Compare_int_r10 (C : cmp_Compare_int_C) (v : cmp_Compare_int_Y9) : Dt cmp_Compare_int_Y5 := (Dt.ret (-1:Int))
theorem cmp_Compare_int_g10 (C : cmp_Compare_int_C) (v : cmp_Compare_int_Y9) : treg tysT (orc (cmp_Compare_int_tab C)) 20 (regO (bodyOf f85) 10) false [(4, .any)] (cmp_Compare_int_S9 v) some = (cmp_Compare_int_r10 C v).eval fun y => some (cmp_Compare_int_S5 y) := by kernel_rfl
abbrev cmp_Compare_int_Y11 : Type := Bool
def cmp_Compare_int_S11 (v : cmp_Compare_int_Y11) : St := ⟨[(19, .bool v)], []⟩
def cmp_Compare_int_r11 (C : cmp_Compare_int_C) (v : cmp_Compare_int_Y9) : Dt cmp_Compare_int_Y11 := (Dt.ret (decide (v.1 > v.2.1)))
theorem cmp_Compare_int_g11 (C : cmp_Compare_int_C) (v : cmp_Compare_int_Y9) : treg tysT (orc (cmp_Compare_int_tab C)) 20 (regO (bodyOf f85) 11) false [(19, .any)] (cmp_Compare_int_S9 v) some = (cmp_Compare_int_r11 C v).eval fun y => some (cmp_Compare_int_S11 y) := by kernel_rfl
def cmp_Compare_int_r12 (C : cmp_Compare_int_C) (v : cmp_Compare_int_Y11) : Dt cmp_Compare_int_Y5 := (Dt.ret (1:Int))
theorem cmp_Compare_int_g12 (C : cmp_Compare_int_C) (v : cmp_Compare_int_Y11) : treg tysT (orc (cmp_Compare_int_tab C)) 20 (regO (bodyOf f85) 12) false [(4, .any)] (cmp_Compare_int_S11 v) some = (cmp_Compare_int_r12 C v).eval fun y => some (cmp_Compare_int_S5 y) := by kernel_rfl
def cmp_Compare_int_r13 (C : cmp_Compare_int_C) (v : cmp_Compare_int_Y11) : Dt cmp_Compare_int_Y5 := (Dt.ret (0:Int))
theorem cmp_Compare_int_g13 (C : cmp_Compare_int_C) (v : cmp_Compare_int_Y11) : treg tysT (orc (cmp_Compare_int_tab C)) 20 (regO (bodyOf f85) 13) false [(4, .any)] (cmp_Compare_int_S11 v) some = (cmp_Compare_int_r13 C v).eval fun y => some (cmp_Compare_int_S5 y) := by kernel_rfl
def F_cmp_Compare_int (d : Nat) (x : cmp_Compare_int_X) : Option cmp_Compare_int_R :=
  (cmp_Compare_int_r0 (cmp_Compare_int_K d) (x.1.1, x.2.1.1)).eval fun y0 =>
  (cmp_Compare_int_r1 (cmp_Compare_int_K d) y0).eval fun y1 =>
  (cmp_Compare_int_r2 (cmp_Compare_int_K d) y1).eval fun y2 =>
  (cmp_Compare_int_r3 (cmp_Compare_int_K d) y2).eval fun y3 =>
  bif y3.2.2.2 then ((cmp_Compare_int_r4 (cmp_Compare_int_K d) y3).eval fun y4 =>
  bif y4 then ((cmp_Compare_int_r5 (cmp_Compare_int_K d) y4).eval fun y5 =>
  some y5) else ((cmp_Compare_int_r6 (cmp_Compare_int_K d) y4).eval fun y6 =>
  some y6)) else ((cmp_Compare_int_r7 (cmp_Compare_int_K d) y3).eval fun y7 =>
  bif y7.2.2 then ((cmp_Compare_int_r8 (cmp_Compare_int_K d) y7).eval fun y8 =>
  some y8) else ((cmp_Compare_int_r9 (cmp_Compare_int_K d) y7).eval fun y9 =>
  bif y9.2.2 then ((cmp_Compare_int_r10 (cmp_Compare_int_K d) y9).eval fun y10 =>
  some y10) else ((cmp_Compare_int_r11 (cmp_Compare_int_K d) y9).eval fun y11 =>
  bif y11 then ((cmp_Compare_int_r12 (cmp_Compare_int_K d) y11).eval fun y12 =>
  some y12) else ((cmp_Compare_int_r13 (cmp_Compare_int_K d) y11).eval fun y13 =>
  some y13))))
theorem cmp_Compare_int_cok (d : Nat) : COK prog (cmp_Compare_int_sp (F_cmp_Compare_int d)) := by
  have hm : prog.follows .mixedOrders = true := mixed
  have hT := tys
  have hC0 : OrcOK prog (orc (cmp_Compare_int_tab (cmp_Compare_int_K d))) := orc_ok (by
    intro S hS
    simp only [cmp_Compare_int_tab, List.mem_cons, List.not_mem_nil, or_false] at hS
    subst hS; exact cmp_isNaN_int_cok d)
  have hC : OrcOK prog (orc (cmp_Compare_int_tab (cmp_Compare_int_K d))) := hC0
  refine cok_of (c := bodyOf f85) (fn := f85) hT (by kernel_rfl) (by kernel_rfl) (by decide) fun x r h w0 φ0 Q hend => ?_
  replace h : F_cmp_Compare_int d x = some r := h
  unfold F_cmp_Compare_int at h
  show Run prog w0 φ0 20 (bodyOf f85) ⟨[(0, .int .i64 x.1.1), (1, .int .i64 x.2.1.1)], []⟩ Q
  refine run_seq ?_
  refine run_reg hm hT hC (cmp_Compare_int_g0 (cmp_Compare_int_K d) (x.1.1, x.2.1.1)) h ?_
  intro y0 h
  refine cn_then ?_
  refine run_seq ?_
  refine run_reg hm hT hC (cmp_Compare_int_g1 (cmp_Compare_int_K d) y0) h ?_
  intro y1 h
  refine cn_then ?_
  refine run_seq ?_
  refine run_reg hm hT hC (cmp_Compare_int_g2 (cmp_Compare_int_K d) y1) h ?_
  intro y2 h
  refine cn_then ?_
  refine run_seq ?_
  refine run_seq ?_
  refine run_reg hm hT hC (cmp_Compare_int_g3 (cmp_Compare_int_K d) y2) h ?_
  intro y3 h
  refine cn_then ?_
  refine run_cond (v := y3.2.2.2) (by kernel_rfl) h ?_ ?_
  ·
    intro h
    refine run_seq ?_
    refine run_seq ?_
    refine run_reg hm hT hC (cmp_Compare_int_g4 (cmp_Compare_int_K d) y3) h ?_
    intro y4 h
    refine cn_then ?_
    refine run_cond (v := y4) (by kernel_rfl) h ?_ ?_
    ·
      intro h
      refine run_seq ?_
      refine run_reg hm hT hC (cmp_Compare_int_g5 (cmp_Compare_int_K d) y4) h ?_
      intro y5 h
      refine cn_then ?_
      refine run_ret ?_
      refine cn_then_ret ?_
      refine cn_then_ret ?_
      cases h
      exact (hend _ (by kernel_rfl)).2
    ·
      intro h
      refine run_skip ?_
      refine cn_then ?_
      refine run_seq ?_
      refine run_reg hm hT hC (cmp_Compare_int_g6 (cmp_Compare_int_K d) y4) h ?_
      intro y6 h
      refine cn_then ?_
      refine run_ret ?_
      refine cn_then_ret ?_
      cases h
      exact (hend _ (by kernel_rfl)).2
  ·
    intro h
    refine run_skip ?_
    refine cn_then ?_
    refine run_seq ?_
    refine run_seq ?_
    refine run_reg hm hT hC (cmp_Compare_int_g7 (cmp_Compare_int_K d) y3) h ?_
    intro y7 h
    refine cn_then ?_
    refine run_cond (v := y7.2.2) (by kernel_rfl) h ?_ ?_
    ·
      intro h
      refine run_seq ?_
      refine run_reg hm hT hC (cmp_Compare_int_g8 (cmp_Compare_int_K d) y7) h ?_
      intro y8 h
      refine cn_then ?_
      refine run_ret ?_
      refine cn_then_ret ?_
      cases h
      exact (hend _ (by kernel_rfl)).2
    ·
      intro h
      refine run_skip ?_
      refine cn_then ?_
      refine run_seq ?_
      refine run_seq ?_
      refine run_reg hm hT hC (cmp_Compare_int_g9 (cmp_Compare_int_K d) y7) h ?_
      intro y9 h
      refine cn_then ?_
      refine run_cond (v := y9.2.2) (by kernel_rfl) h ?_ ?_
      ·
        intro h
        refine run_seq ?_
        refine run_reg hm hT hC (cmp_Compare_int_g10 (cmp_Compare_int_K d) y9) h ?_
        intro y10 h
        refine cn_then ?_
        refine run_ret ?_
        refine cn_then_ret ?_
        cases h
        exact (hend _ (by kernel_rfl)).2
      ·
        intro h
        refine run_skip ?_
        refine cn_then ?_
        refine run_seq ?_
        refine run_seq ?_
        refine run_reg hm hT hC (cmp_Compare_int_g11 (cmp_Compare_int_K d) y9) h ?_
        intro y11 h
        refine cn_then ?_
        refine run_cond (v := y11) (by kernel_rfl) h ?_ ?_
        ·
          intro h
          refine run_seq ?_
          refine run_reg hm hT hC (cmp_Compare_int_g12 (cmp_Compare_int_K d) y11) h ?_
          intro y12 h
          refine cn_then ?_
          refine run_ret ?_
          refine cn_then_ret ?_
          cases h
          exact (hend _ (by kernel_rfl)).2
        ·
          intro h
          refine run_skip ?_
          refine cn_then ?_
          refine run_seq ?_
          refine run_reg hm hT hC (cmp_Compare_int_g13 (cmp_Compare_int_K d) y11) h ?_
          intro y13 h
          refine cn_then ?_
          refine run_ret ?_
          cases h
          exact (hend _ (by kernel_rfl)).2
abbrev cmp_Or_int_ps : List Pk := [.row RLiE false]
abbrev cmp_Or_int_X : Type := DLiE × Unit
abbrev cmp_Or_int_R : Type := Int
def cmp_Or_int_enc (r : cmp_Or_int_R) : LV × List Ob := (.int .i64 r, [])
def cmp_Or_int_sp (F : cmp_Or_int_X → Option cmp_Or_int_R) : Go.Tx.Spec := ⟨99, cmp_Or_int_ps, cmp_Or_int_R, F, cmp_Or_int_enc⟩
abbrev cmp_Or_int_C : Type := Unit
def cmp_Or_int_K (_d : Nat) : cmp_Or_int_C := ()
def cmp_Or_int_tab (C : cmp_Or_int_C) : List Go.Tx.Spec := []
abbrev cmp_Or_int_Y0i : Type := List Di
def cmp_Or_int_S0i (v : cmp_Or_int_Y0i) : St := ⟨[(0, .fz Ri v)], []⟩
def cmp_Or_int_r0 (C : cmp_Or_int_C) (v : cmp_Or_int_Y0i) : Dt cmp_Or_int_Y0i := (Dt.ret v)
theorem cmp_Or_int_g0 (C : cmp_Or_int_C) (v : cmp_Or_int_Y0i) : treg tysT (orc (cmp_Or_int_tab C)) 18 (regO (bodyOf f99) 0) false [(0, (.val Ri))] (cmp_Or_int_S0i v) some = (cmp_Or_int_r0 C v).eval fun y => some (cmp_Or_int_S0i y) := by kernel_rfl
abbrev cmp_Or_int_Y1 : Type := List Di × Int
def cmp_Or_int_S1 (v : cmp_Or_int_Y1) : St := ⟨[(0, .fz Ri v.1), (3, .int .i64 v.2)], []⟩
def cmp_Or_int_r1 (C : cmp_Or_int_C) (v : cmp_Or_int_Y0i) : Dt cmp_Or_int_Y1 := (Dt.ret (v, (0:Int)))
theorem cmp_Or_int_g1 (C : cmp_Or_int_C) (v : cmp_Or_int_Y0i) : treg tysT (orc (cmp_Or_int_tab C)) 18 (regO (bodyOf f99) 1) false [(0, (.val Ri)), (3, .any)] (cmp_Or_int_S0i v) some = (cmp_Or_int_r1 C v).eval fun y => some (cmp_Or_int_S1 y) := by kernel_rfl
abbrev cmp_Or_int_Y2 : Type := Int × List Di × Int × Int
def cmp_Or_int_S2 (v : cmp_Or_int_Y2) : St := ⟨[(3, .int .i64 v.1), (6, .fz Ri v.2.1), (7, .int .i64 v.2.2.1), (8, .int .i64 v.2.2.2)], []⟩
def cmp_Or_int_r2 (C : cmp_Or_int_C) (v : cmp_Or_int_Y1) : Dt cmp_Or_int_Y2 := (Dt.ret (v.2, v.1, (List.length v.1 : Int), (0:Int)))
theorem cmp_Or_int_g2 (C : cmp_Or_int_C) (v : cmp_Or_int_Y1) : treg tysT (orc (cmp_Or_int_tab C)) 18 (regO (bodyOf f99) 2) false [(3, .any), (6, (.val Ri)), (7, .any), (8, .any)] (cmp_Or_int_S1 v) some = (cmp_Or_int_r2 C v).eval fun y => some (cmp_Or_int_S2 y) := by kernel_rfl
abbrev cmp_Or_int_Y3 : Type := Int × List Di × Int × Int × Bool
def cmp_Or_int_S3 (v : cmp_Or_int_Y3) : St := ⟨[(3, .int .i64 v.1), (6, .fz Ri v.2.1), (7, .int .i64 v.2.2.1), (8, .int .i64 v.2.2.2.1), (9, .bool v.2.2.2.2)], []⟩
def cmp_Or_int_r3 (C : cmp_Or_int_C) (v : cmp_Or_int_Y2) : Dt cmp_Or_int_Y3 := (Dt.ret (v.1, v.2.1, v.2.2.1, v.2.2.2, (decide (v.2.2.2 < v.2.2.1))))
theorem cmp_Or_int_g3 (C : cmp_Or_int_C) (v : cmp_Or_int_Y2) : treg tysT (orc (cmp_Or_int_tab C)) 18 (regO (bodyOf f99) 3) false [(3, .any), (6, (.val Ri)), (7, .any), (8, .any), (9, .any)] (cmp_Or_int_S2 v) some = (cmp_Or_int_r3 C v).eval fun y => some (cmp_Or_int_S3 y) := by kernel_rfl
abbrev cmp_Or_int_Y4 : Type := Int × Int × List Di × Int × Int
def cmp_Or_int_S4 (v : cmp_Or_int_Y4) : St := ⟨[(3, .int .i64 v.1), (5, .int .i64 v.2.1), (6, .fz Ri v.2.2.1), (7, .int .i64 v.2.2.2.1), (8, .int .i64 v.2.2.2.2)], []⟩
def cmp_Or_int_r4 (C : cmp_Or_int_C) (v : cmp_Or_int_Y3) : Dt cmp_Or_int_Y4 := (Dt.ite (inB v.2.2.2.1 (List.length v.2.1)) (Dt.ret (v.1, (elt zi v.2.1 (v.2.2.2.1).toNat).1, v.2.1, v.2.2.1, v.2.2.2.1)) Dt.fail)
theorem cmp_Or_int_g4 (C : cmp_Or_int_C) (v : cmp_Or_int_Y3) : treg tysT (orc (cmp_Or_int_tab C)) 18 (regO (bodyOf f99) 4) false [(3, .any), (5, .any), (6, (.val Ri)), (7, .any), (8, .any)] (cmp_Or_int_S3 v) some = (cmp_Or_int_r4 C v).eval fun y => some (cmp_Or_int_S4 y) := by kernel_rfl
abbrev cmp_Or_int_Y5 : Type := Int × Int × List Di × Int × Int × Bool
def cmp_Or_int_S5 (v : cmp_Or_int_Y5) : St := ⟨[(3, .int .i64 v.1), (5, .int .i64 v.2.1), (6, .fz Ri v.2.2.1), (7, .int .i64 v.2.2.2.1), (8, .int .i64 v.2.2.2.2.1), (14, .bool v.2.2.2.2.2)], []⟩
def cmp_Or_int_r5 (C : cmp_Or_int_C) (v : cmp_Or_int_Y4) : Dt cmp_Or_int_Y5 := (Dt.ret (v.1, v.2.1, v.2.2.1, v.2.2.2.1, v.2.2.2.2, (v.2.1 != v.1)))
theorem cmp_Or_int_g5 (C : cmp_Or_int_C) (v : cmp_Or_int_Y4) : treg tysT (orc (cmp_Or_int_tab C)) 18 (regO (bodyOf f99) 5) false [(3, .any), (5, .any), (6, (.val Ri)), (7, .any), (8, .any), (14, .any)] (cmp_Or_int_S4 v) some = (cmp_Or_int_r5 C v).eval fun y => some (cmp_Or_int_S5 y) := by kernel_rfl
abbrev cmp_Or_int_Y6 : Type := Int
def cmp_Or_int_S6 (v : cmp_Or_int_Y6) : St := ⟨[(2, .int .i64 v)], []⟩
def cmp_Or_int_r6 (C : cmp_Or_int_C) (v : cmp_Or_int_Y5) : Dt cmp_Or_int_Y6 := (Dt.ret v.2.1)
theorem cmp_Or_int_g6 (C : cmp_Or_int_C) (v : cmp_Or_int_Y5) : treg tysT (orc (cmp_Or_int_tab C)) 18 (regO (bodyOf f99) 6) false [(2, .any)] (cmp_Or_int_S5 v) some = (cmp_Or_int_r6 C v).eval fun y => some (cmp_Or_int_S6 y) := by kernel_rfl
def cmp_Or_int_r7 (C : cmp_Or_int_C) (v : cmp_Or_int_Y5) : Dt cmp_Or_int_Y2 := (Dt.ret (v.1, v.2.2.1, v.2.2.2.1, (IntKind.wrap .i64 (v.2.2.2.2.1 + (1:Int)))))
theorem cmp_Or_int_g7 (C : cmp_Or_int_C) (v : cmp_Or_int_Y5) : treg tysT (orc (cmp_Or_int_tab C)) 18 (regO (bodyOf f99) 7) false [(3, .any), (6, (.val Ri)), (7, .any), (8, .any)] (cmp_Or_int_S5 v) some = (cmp_Or_int_r7 C v).eval fun y => some (cmp_Or_int_S2 y) := by kernel_rfl
def cmp_Or_int_r8 (C : cmp_Or_int_C) (v : cmp_Or_int_Y3) : Dt cmp_Or_int_Y6 := (Dt.ret v.1)
theorem cmp_Or_int_g8 (C : cmp_Or_int_C) (v : cmp_Or_int_Y3) : treg tysT (orc (cmp_Or_int_tab C)) 18 (regO (bodyOf f99) 8) false [(2, .any)] (cmp_Or_int_S3 v) some = (cmp_Or_int_r8 C v).eval fun y => some (cmp_Or_int_S6 y) := by kernel_rfl
def cmp_Or_int_L1 (d : Nat) (self1 : (Int × List Di × Int × Int) → Option cmp_Or_int_R) (x1 : Int × List Di × Int × Int) : Option cmp_Or_int_R :=
  (cmp_Or_int_r3 (cmp_Or_int_K d) x1).eval fun y3 =>
  bif y3.2.2.2.2 then ((cmp_Or_int_r4 (cmp_Or_int_K d) y3).eval fun y4 =>
  (cmp_Or_int_r5 (cmp_Or_int_K d) y4).eval fun y5 =>
  bif y5.2.2.2.2.2 then ((cmp_Or_int_r6 (cmp_Or_int_K d) y5).eval fun y6 =>
  some y6) else ((cmp_Or_int_r7 (cmp_Or_int_K d) y5).eval fun y7 =>
  self1 y7)) else ((cmp_Or_int_r8 (cmp_Or_int_K d) y3).eval fun y8 =>
  some y8)
def F_cmp_Or_int (d : Nat) (x : cmp_Or_int_X) : Option cmp_Or_int_R :=
  (cmp_Or_int_r0 (cmp_Or_int_K d) x.1.1).eval fun y0 =>
  (cmp_Or_int_r1 (cmp_Or_int_K d) y0).eval fun y1 =>
  (cmp_Or_int_r2 (cmp_Or_int_K d) y1).eval fun y2 =>
  iter (cmp_Or_int_L1 d ) d y2
theorem cmp_Or_int_cok (d : Nat) : COK prog (cmp_Or_int_sp (F_cmp_Or_int d)) := by
  have hm : prog.follows .mixedOrders = true := mixed
  have hT := tys
  have hC0 : OrcOK prog (orc (cmp_Or_int_tab (cmp_Or_int_K d))) := orc_ok (by
    intro S hS
    simp only [cmp_Or_int_tab, List.mem_cons, List.not_mem_nil, or_false] at hS
    all_goals first | cases hS | exact hS.elim)
  have hC : OrcOK prog (orc (cmp_Or_int_tab (cmp_Or_int_K d))) := hC0
  refine cok_of (c := bodyOf f99) (fn := f99) hT (by kernel_rfl) (by kernel_rfl) (by decide) fun x r h w0 φ0 Q hend => ?_
  replace h : F_cmp_Or_int d x = some r := h
  unfold F_cmp_Or_int at h
  show Run prog w0 φ0 18 (bodyOf f99) ⟨[(0, .fz Ri x.1.1)], []⟩ Q
  refine run_seq ?_
  refine run_reg hm hT hC (cmp_Or_int_g0 (cmp_Or_int_K d) x.1.1) h ?_
  intro y0 h
  refine cn_then ?_
  refine run_seq ?_
  refine run_reg hm hT hC (cmp_Or_int_g1 (cmp_Or_int_K d) y0) h ?_
  intro y1 h
  refine cn_then ?_
  refine run_seq ?_
  refine run_seq ?_
  refine run_reg hm hT hC (cmp_Or_int_g2 (cmp_Or_int_K d) y1) h ?_
  intro y2 h
  refine cn_then ?_
  refine run_block ?_
  refine run_loop (G := iter (cmp_Or_int_L1 d )) (S := (fun x1 => ⟨[(3, .int .i64 x1.1), (6, .fz Ri x1.2.1), (7, .int .i64 x1.2.2.1), (8, .int .i64 x1.2.2.2)], []⟩ : Int × List Di × Int × Int → St)) (fun _ => rfl) ?_ d _ h
  intro n1 x1 h K1 hn1
  replace h : cmp_Or_int_L1 d  (iter (cmp_Or_int_L1 d ) n1) x1 = some r := h
  generalize iter (cmp_Or_int_L1 d ) n1 = self1 at h hn1
  unfold cmp_Or_int_L1 at h
  refine run_seq ?_
  refine run_reg hm hT hC (cmp_Or_int_g3 (cmp_Or_int_K d) x1) h ?_
  intro y3 h
  refine cn_then ?_
  refine run_seq ?_
  refine run_cond (v := y3.2.2.2.2) (by kernel_rfl) h ?_ ?_
  ·
    intro h
    refine run_skip ?_
    refine cn_then ?_
    refine run_seq ?_
    refine run_block ?_
    refine run_seq ?_
    refine run_reg hm hT hC (cmp_Or_int_g4 (cmp_Or_int_K d) y3) h ?_
    intro y4 h
    refine cn_then ?_
    refine run_seq ?_
    refine run_reg hm hT hC (cmp_Or_int_g5 (cmp_Or_int_K d) y4) h ?_
    intro y5 h
    refine cn_then ?_
    refine run_cond (v := y5.2.2.2.2.2) (by kernel_rfl) h ?_ ?_
    ·
      intro h
      refine run_seq ?_
      refine run_reg hm hT hC (cmp_Or_int_g6 (cmp_Or_int_K d) y5) h ?_
      intro y6 h
      refine cn_then ?_
      refine run_ret ?_
      refine cn_blk_ret ?_
      refine cn_then_ret ?_
      refine cn_then_ret ?_
      refine cn_blk_ret ?_
      refine cn_then_ret ?_
      cases h
      exact (hend _ (by kernel_rfl)).2
    ·
      intro h
      refine run_skip ?_
      refine cn_blk ?_
      refine cn_then ?_
      refine run_reg hm hT hC (cmp_Or_int_g7 (cmp_Or_int_K d) y5) h ?_
      intro y7 h
      exact hn1 _ h
  ·
    intro h
    refine run_exit ?_
    refine cn_then_exit ?_
    refine cn_then_exit ?_
    refine cn_blk_eq ?_
    refine cn_then ?_
    refine run_seq ?_
    refine run_reg hm hT hC (cmp_Or_int_g8 (cmp_Or_int_K d) y3) h ?_
    intro y8 h
    refine cn_then ?_
    refine run_ret ?_
    cases h
    exact (hend _ (by kernel_rfl)).2
abbrev course_compare_ps : List Pk := [.row Riii true, .row Riii true, .row Rii true]
abbrev course_compare_X : Type := Diii × Diii × Dii × Unit
abbrev course_compare_R : Type := Int
def course_compare_enc (r : course_compare_R) : LV × List Ob := (.int .i64 r, [])
def course_compare_sp (F : course_compare_X → Option course_compare_R) : Go.Tx.Spec := ⟨77, course_compare_ps, course_compare_R, F, course_compare_enc⟩
abbrev course_compare_C : Type := (cmp_Compare_int_X → Option cmp_Compare_int_R) × (cmp_Compare_int64_X → Option cmp_Compare_int64_R) × (cmp_Or_int_X → Option cmp_Or_int_R) × (course_sum_X → Option course_sum_R) × Unit
def course_compare_K (d : Nat) : course_compare_C := (F_cmp_Compare_int d, F_cmp_Compare_int64 d, F_cmp_Or_int d, F_course_sum d, ())
def course_compare_tab (C : course_compare_C) : List Go.Tx.Spec := [cmp_Compare_int_sp C.1, cmp_Compare_int64_sp C.2.1, cmp_Or_int_sp C.2.2.1, course_sum_sp C.2.2.2.1]
abbrev course_compare_Y0i : Type := Int × Int × Int × Int × Int × Int × Int × Int
def course_compare_S0i (v : course_compare_Y0i) : St := ⟨[(0, .agg [.int .i64 v.1, .int .i64 v.2.1, .int .i64 v.2.2.1]), (1, .agg [.int .i64 v.2.2.2.1, .int .i64 v.2.2.2.2.1, .int .i64 v.2.2.2.2.2.1]), (2, .agg [.int .i64 v.2.2.2.2.2.2.1, .int .i64 v.2.2.2.2.2.2.2])], []⟩
abbrev course_compare_Y0 : Type := Int × Int × Int × Int × Int × Int × Int × Int
def course_compare_S0 (v : course_compare_Y0) : St := ⟨[(3, .ptr 0 0), (4, .ptr 1 0), (5, .ptr 2 0)], [.cells [.int .i64 v.1, .int .i64 v.2.1, .int .i64 v.2.2.1], .cells [.int .i64 v.2.2.2.1, .int .i64 v.2.2.2.2.1, .int .i64 v.2.2.2.2.2.1], .cells [.int .i64 v.2.2.2.2.2.2.1, .int .i64 v.2.2.2.2.2.2.2]]⟩
def course_compare_r0 (C : course_compare_C) (v : course_compare_Y0i) : Dt course_compare_Y0 := (Dt.ret (v.1, v.2.1, v.2.2.1, v.2.2.2.1, v.2.2.2.2.1, v.2.2.2.2.2.1, v.2.2.2.2.2.2.1, v.2.2.2.2.2.2.2))
theorem course_compare_g0 (C : course_compare_C) (v : course_compare_Y0i) : treg tysT (orc (course_compare_tab C)) 44 (regO (bodyOf f77) 0) false [(3, .any), (4, .any), (5, .any)] (course_compare_S0i v) some = (course_compare_r0 C v).eval fun y => some (course_compare_S0 y) := by kernel_rfl
abbrev course_compare_Y1 : Type := Int × Int × Int × Int × Int × Int × Int × Int
def course_compare_S1 (v : course_compare_Y1) : St := ⟨[(3, .ptr 0 0), (4, .ptr 1 0), (7, .ptr 2 0)], [.cells [.int .i64 v.1, .int .i64 v.2.1, .int .i64 v.2.2.1], .cells [.int .i64 v.2.2.2.1, .int .i64 v.2.2.2.2.1, .int .i64 v.2.2.2.2.2.1], .cells [.int .i64 v.2.2.2.2.2.2.1, .int .u64 v.2.2.2.2.2.2.2]]⟩
def course_compare_r1 (C : course_compare_C) (v : course_compare_Y0) : Dt course_compare_Y1 := (Dt.bnd (C.2.2.2.1 (((IntKind.wrap .i64 (v.2.1 - v.2.2.2.2.1)), v.2.2.2.2.2.2.2, (IntKind.wrap .i64 (v.2.2.1 - v.2.2.2.2.2.1)), v.2.2.2.2.2.2.1, ()), ())) fun r1 => (Dt.ret (v.1, v.2.1, v.2.2.1, v.2.2.2.1, v.2.2.2.2.1, v.2.2.2.2.2.1, r1.1, r1.2)))
theorem course_compare_g1 (C : course_compare_C) (v : course_compare_Y0) : treg tysT (orc (course_compare_tab C)) 44 (regO (bodyOf f77) 1) false [(3, .any), (4, .any), (7, .any)] (course_compare_S0 v) some = (course_compare_r1 C v).eval fun y => some (course_compare_S1 y) := by kernel_rfl
abbrev course_compare_Y2 : Type := Bool × Int × Int × Int × Int × Int × Int × Int × Int
def course_compare_S2 (v : course_compare_Y2) : St := ⟨[(3, .ptr 0 0), (4, .ptr 1 0), (7, .ptr 2 0), (28, .bool v.1)], [.cells [.int .i64 v.2.1, .int .i64 v.2.2.1, .int .i64 v.2.2.2.1], .cells [.int .i64 v.2.2.2.2.1, .int .i64 v.2.2.2.2.2.1, .int .i64 v.2.2.2.2.2.2.1], .cells [.int .i64 v.2.2.2.2.2.2.2.1, .int .u64 v.2.2.2.2.2.2.2.2]]⟩
def course_compare_r2 (C : course_compare_C) (v : course_compare_Y1) : Dt course_compare_Y2 := (Dt.ret ((!((v.2.2.2.2.2.2.1 == (0:Int)) && ((v.2.2.2.2.2.2.2 == (0:Int)) && true))), v.1, v.2.1, v.2.2.1, v.2.2.2.1, v.2.2.2.2.1, v.2.2.2.2.2.1, v.2.2.2.2.2.2.1, v.2.2.2.2.2.2.2))
theorem course_compare_g2 (C : course_compare_C) (v : course_compare_Y1) : treg tysT (orc (course_compare_tab C)) 44 (regO (bodyOf f77) 2) false [(3, .any), (4, .any), (7, .any), (28, .any)] (course_compare_S1 v) some = (course_compare_r2 C v).eval fun y => some (course_compare_S2 y) := by kernel_rfl
abbrev course_compare_Y3 : Type := Bool
def course_compare_S3 (v : course_compare_Y3) : St := ⟨[(31, .bool v)], []⟩
def course_compare_r3 (C : course_compare_C) (v : course_compare_Y2) : Dt course_compare_Y3 := (Dt.ret (decide (v.2.2.2.2.2.2.2.1 < (0:Int))))
theorem course_compare_g3 (C : course_compare_C) (v : course_compare_Y2) : treg tysT (orc (course_compare_tab C)) 44 (regO (bodyOf f77) 3) false [(31, .any)] (course_compare_S2 v) some = (course_compare_r3 C v).eval fun y => some (course_compare_S3 y) := by kernel_rfl
abbrev course_compare_Y4 : Type := Int
def course_compare_S4 (v : course_compare_Y4) : St := ⟨[(6, .int .i64 v)], []⟩
def course_compare_r4 (C : course_compare_C) (v : course_compare_Y3) : Dt course_compare_Y4 := (Dt.ret (-1:Int))
theorem course_compare_g4 (C : course_compare_C) (v : course_compare_Y3) : treg tysT (orc (course_compare_tab C)) 44 (regO (bodyOf f77) 4) false [(6, .any)] (course_compare_S3 v) some = (course_compare_r4 C v).eval fun y => some (course_compare_S4 y) := by kernel_rfl
def course_compare_r5 (C : course_compare_C) (v : course_compare_Y3) : Dt course_compare_Y4 := (Dt.ret (1:Int))
theorem course_compare_g5 (C : course_compare_C) (v : course_compare_Y3) : treg tysT (orc (course_compare_tab C)) 44 (regO (bodyOf f77) 5) false [(6, .any)] (course_compare_S3 v) some = (course_compare_r5 C v).eval fun y => some (course_compare_S4 y) := by kernel_rfl
def course_compare_r6 (C : course_compare_C) (v : course_compare_Y2) : Dt course_compare_Y4 := (Dt.bnd (C.2.1 ((v.2.2.2.1, ()), (v.2.2.2.2.2.2.1, ()), ())) fun r1 => (Dt.bnd (C.1 ((v.2.2.2.2.1, ()), (v.2.1, ()), ())) fun r2 => (Dt.bnd (C.2.2.1 ((([(r1, ()), (r2, ())] : List Di), ()), ())) fun r3 => (Dt.ret r3))))
theorem course_compare_g6 (C : course_compare_C) (v : course_compare_Y2) : treg tysT (orc (course_compare_tab C)) 44 (regO (bodyOf f77) 6) true [(6, .any)] (course_compare_S2 v) some = (course_compare_r6 C v).eval fun y => some (course_compare_S4 y) := by kernel_rfl
def F_course_compare (d : Nat) (x : course_compare_X) : Option course_compare_R :=
  (course_compare_r0 (course_compare_K d) (x.1.1, x.1.2.1, x.1.2.2.1, x.2.1.1, x.2.1.2.1, x.2.1.2.2.1, x.2.2.1.1, x.2.2.1.2.1)).eval fun y0 =>
  (course_compare_r1 (course_compare_K d) y0).eval fun y1 =>
  (course_compare_r2 (course_compare_K d) y1).eval fun y2 =>
  bif y2.1 then ((course_compare_r3 (course_compare_K d) y2).eval fun y3 =>
  bif y3 then ((course_compare_r4 (course_compare_K d) y3).eval fun y4 =>
  some y4) else ((course_compare_r5 (course_compare_K d) y3).eval fun y5 =>
  some y5)) else ((course_compare_r6 (course_compare_K d) y2).eval fun y6 =>
  some y6)
theorem course_compare_cok (d : Nat) : COK prog (course_compare_sp (F_course_compare d)) := by
  have hm : prog.follows .mixedOrders = true := mixed
  have hT := tys
  have hC0 : OrcOK prog (orc (course_compare_tab (course_compare_K d))) := orc_ok (by
    intro S hS
    simp only [course_compare_tab, List.mem_cons, List.not_mem_nil, or_false] at hS
    rcases hS with rfl | rfl | rfl | rfl
    · exact cmp_Compare_int_cok d
    · exact cmp_Compare_int64_cok d
    · exact cmp_Or_int_cok d
    · exact course_sum_cok d)
  have hC : OrcOK prog (orc (course_compare_tab (course_compare_K d))) := hC0
  refine cok_of (c := bodyOf f77) (fn := f77) hT (by kernel_rfl) (by kernel_rfl) (by decide) fun x r h w0 φ0 Q hend => ?_
  replace h : F_course_compare d x = some r := h
  unfold F_course_compare at h
  show Run prog w0 φ0 44 (bodyOf f77) ⟨[(0, .agg [.int .i64 x.1.1, .int .i64 x.1.2.1, .int .i64 x.1.2.2.1]), (1, .agg [.int .i64 x.2.1.1, .int .i64 x.2.1.2.1, .int .i64 x.2.1.2.2.1]), (2, .agg [.int .i64 x.2.2.1.1, .int .i64 x.2.2.1.2.1])], []⟩ Q
  refine run_seq ?_
  refine run_reg hm hT hC (course_compare_g0 (course_compare_K d) (x.1.1, x.1.2.1, x.1.2.2.1, x.2.1.1, x.2.1.2.1, x.2.1.2.2.1, x.2.2.1.1, x.2.2.1.2.1)) h ?_
  intro y0 h
  refine cn_then ?_
  refine run_seq ?_
  refine run_reg hm hT hC (course_compare_g1 (course_compare_K d) y0) h ?_
  intro y1 h
  refine cn_then ?_
  refine run_seq ?_
  refine run_seq ?_
  refine run_reg hm hT hC (course_compare_g2 (course_compare_K d) y1) h ?_
  intro y2 h
  refine cn_then ?_
  refine run_cond (v := y2.1) (by kernel_rfl) h ?_ ?_
  ·
    intro h
    refine run_seq ?_
    refine run_seq ?_
    refine run_reg hm hT hC (course_compare_g3 (course_compare_K d) y2) h ?_
    intro y3 h
    refine cn_then ?_
    refine run_cond (v := y3) (by kernel_rfl) h ?_ ?_
    ·
      intro h
      refine run_seq ?_
      refine run_reg hm hT hC (course_compare_g4 (course_compare_K d) y3) h ?_
      intro y4 h
      refine cn_then ?_
      refine run_ret ?_
      refine cn_then_ret ?_
      refine cn_then_ret ?_
      cases h
      exact (hend _ (by kernel_rfl)).2
    ·
      intro h
      refine run_skip ?_
      refine cn_then ?_
      refine run_seq ?_
      refine run_reg hm hT hC (course_compare_g5 (course_compare_K d) y3) h ?_
      intro y5 h
      refine cn_then ?_
      refine run_ret ?_
      refine cn_then_ret ?_
      cases h
      exact (hend _ (by kernel_rfl)).2
  ·
    intro h
    refine run_skip ?_
    refine cn_then ?_
    refine run_seq ?_
    refine run_reg hm hT hC (course_compare_g6 (course_compare_K d) y2) h ?_
    intro y6 h
    refine cn_then ?_
    refine run_ret ?_
    cases h
    exact (hend _ (by kernel_rfl)).2
abbrev ratio_Make_ps : List Pk := [.row Ri false, .row Ri false]
abbrev ratio_Make_X : Type := Di × Di × Unit
abbrev ratio_Make_R : Type := Int × Int × Int
def ratio_Make_enc (r : ratio_Make_R) : LV × List Ob := (.tup [.agg [.int .i64 r.1, .int .i64 r.2.1], .int .i64 r.2.2], [])
def ratio_Make_sp (F : ratio_Make_X → Option ratio_Make_R) : Go.Tx.Spec := ⟨100, ratio_Make_ps, ratio_Make_R, F, ratio_Make_enc⟩
abbrev ratio_Make_C : Type := (ratio_gcd_X → Option ratio_gcd_R) × (ratio_abs_X → Option ratio_abs_R) × (ratio_build_X → Option ratio_build_R) × Unit
def ratio_Make_K (d : Nat) : ratio_Make_C := (F_ratio_gcd d, F_ratio_abs d, F_ratio_build d, ())
def ratio_Make_tab (C : ratio_Make_C) : List Go.Tx.Spec := [ratio_gcd_sp C.1, ratio_abs_sp C.2.1, ratio_build_sp C.2.2.1]
abbrev ratio_Make_Y0i : Type := Int × Int
def ratio_Make_S0i (v : ratio_Make_Y0i) : St := ⟨[(0, .int .i64 v.1), (1, .int .i64 v.2)], []⟩
abbrev ratio_Make_Y0 : Type := Int × Int × Int × Int
def ratio_Make_S0 (v : ratio_Make_Y0) : St := ⟨[(0, .int .i64 v.1), (1, .int .i64 v.2.1), (4, .ptr 0 0)], [.cells [.int .i64 v.2.2.1, .int .i64 v.2.2.2]]⟩
def ratio_Make_r0 (C : ratio_Make_C) (v : ratio_Make_Y0i) : Dt ratio_Make_Y0 := (Dt.ret (v.1, v.2, (0:Int), (0:Int)))
theorem ratio_Make_g0 (C : ratio_Make_C) (v : ratio_Make_Y0i) : treg tysT (orc (ratio_Make_tab C)) 32 (regO (bodyOf f100) 0) false [(0, .any), (1, .any), (4, .any)] (ratio_Make_S0i v) some = (ratio_Make_r0 C v).eval fun y => some (ratio_Make_S0 y) := by kernel_rfl
abbrev ratio_Make_Y1 : Type := Int × Int × Bool × Int × Int
def ratio_Make_S1 (v : ratio_Make_Y1) : St := ⟨[(0, .int .i64 v.1), (1, .int .i64 v.2.1), (4, .ptr 0 0), (8, .bool v.2.2.1)], [.cells [.int .i64 v.2.2.2.1, .int .i64 v.2.2.2.2]]⟩
def ratio_Make_r1 (C : ratio_Make_C) (v : ratio_Make_Y0) : Dt ratio_Make_Y1 := (Dt.ret (v.1, v.2.1, (v.2.1 == (0:Int)), v.2.2.1, v.2.2.2))
theorem ratio_Make_g1 (C : ratio_Make_C) (v : ratio_Make_Y0) : treg tysT (orc (ratio_Make_tab C)) 32 (regO (bodyOf f100) 1) false [(0, .any), (1, .any), (4, .any), (8, .any)] (ratio_Make_S0 v) some = (ratio_Make_r1 C v).eval fun y => some (ratio_Make_S1 y) := by kernel_rfl
abbrev ratio_Make_Y2 : Type := Int × Int × Int
def ratio_Make_S2 (v : ratio_Make_Y2) : St := ⟨[(4, .ptr 0 0), (5, .int .i64 v.1)], [.cells [.int .i64 v.2.1, .int .i64 v.2.2]]⟩
def ratio_Make_r2 (C : ratio_Make_C) (v : ratio_Make_Y1) : Dt ratio_Make_Y2 := (Dt.ret ((26:Int), (0:Int), (0:Int)))
theorem ratio_Make_g2 (C : ratio_Make_C) (v : ratio_Make_Y1) : treg tysT (orc (ratio_Make_tab C)) 32 (regO (bodyOf f100) 2) false [(4, .any), (5, .any)] (ratio_Make_S1 v) some = (ratio_Make_r2 C v).eval fun y => some (ratio_Make_S2 y) := by kernel_rfl
abbrev ratio_Make_Y3 : Type := Int × Int × Int × Int × Int
def ratio_Make_S3 (v : ratio_Make_Y3) : St := ⟨[(0, .int .i64 v.1), (1, .int .i64 v.2.1), (4, .ptr 0 0), (6, .int .u64 v.2.2.1)], [.cells [.int .i64 v.2.2.2.1, .int .i64 v.2.2.2.2]]⟩
def ratio_Make_r3 (C : ratio_Make_C) (v : ratio_Make_Y1) : Dt ratio_Make_Y3 := (Dt.bnd (C.2.1 ((v.1, ()), ())) fun r1 => (Dt.bnd (C.2.1 ((v.2.1, ()), ())) fun r2 => (Dt.bnd (C.1 ((r1, ()), (r2, ()), ())) fun r3 => (Dt.ret (v.1, v.2.1, r3, v.2.2.2.1, v.2.2.2.2)))))
theorem ratio_Make_g3 (C : ratio_Make_C) (v : ratio_Make_Y1) : treg tysT (orc (ratio_Make_tab C)) 32 (regO (bodyOf f100) 3) false [(0, .any), (1, .any), (4, .any), (6, .any)] (ratio_Make_S1 v) some = (ratio_Make_r3 C v).eval fun y => some (ratio_Make_S3 y) := by kernel_rfl
def ratio_Make_r4 (C : ratio_Make_C) (v : ratio_Make_Y3) : Dt ratio_Make_Y2 := (Dt.bnd (C.2.1 ((v.1, ()), ())) fun r1 => (Dt.ite (v.2.2.1 == (0:Int)) Dt.fail (Dt.bnd (C.2.1 ((v.2.1, ()), ())) fun r2 => (Dt.ite (v.2.2.1 == (0:Int)) Dt.fail (Dt.bnd (C.2.2.1 (((!((decide (v.1 < (0:Int))) == (decide (v.2.1 < (0:Int))))), (0:Int), (IntKind.wrap .u64 (Int.tdiv r1 v.2.2.1)), ()), ((0:Int), ()), ((IntKind.wrap .u64 (Int.tdiv r2 v.2.2.1)), ()), ())) fun r3 => (Dt.ret (r3.2.2, r3.1, r3.2.1)))))))
theorem ratio_Make_g4 (C : ratio_Make_C) (v : ratio_Make_Y3) : treg tysT (orc (ratio_Make_tab C)) 32 (regO (bodyOf f100) 4) true [(4, .any), (5, .any)] (ratio_Make_S3 v) some = (ratio_Make_r4 C v).eval fun y => some (ratio_Make_S2 y) := by kernel_rfl
def F_ratio_Make (d : Nat) (x : ratio_Make_X) : Option ratio_Make_R :=
  (ratio_Make_r0 (ratio_Make_K d) (x.1.1, x.2.1.1)).eval fun y0 =>
  (ratio_Make_r1 (ratio_Make_K d) y0).eval fun y1 =>
  bif y1.2.2.1 then ((ratio_Make_r2 (ratio_Make_K d) y1).eval fun y2 =>
  some (y2.2.1, y2.2.2, y2.1)) else ((ratio_Make_r3 (ratio_Make_K d) y1).eval fun y3 =>
  (ratio_Make_r4 (ratio_Make_K d) y3).eval fun y4 =>
  some (y4.2.1, y4.2.2, y4.1))
theorem ratio_Make_cok (d : Nat) : COK prog (ratio_Make_sp (F_ratio_Make d)) := by
  have hm : prog.follows .mixedOrders = true := mixed
  have hT := tys
  have hC0 : OrcOK prog (orc (ratio_Make_tab (ratio_Make_K d))) := orc_ok (by
    intro S hS
    simp only [ratio_Make_tab, List.mem_cons, List.not_mem_nil, or_false] at hS
    rcases hS with rfl | rfl | rfl
    · exact ratio_gcd_cok d
    · exact ratio_abs_cok d
    · exact ratio_build_cok d)
  have hC : OrcOK prog (orc (ratio_Make_tab (ratio_Make_K d))) := hC0
  refine cok_of (c := bodyOf f100) (fn := f100) hT (by kernel_rfl) (by kernel_rfl) (by decide) fun x r h w0 φ0 Q hend => ?_
  replace h : F_ratio_Make d x = some r := h
  unfold F_ratio_Make at h
  show Run prog w0 φ0 32 (bodyOf f100) ⟨[(0, .int .i64 x.1.1), (1, .int .i64 x.2.1.1)], []⟩ Q
  refine run_seq ?_
  refine run_reg hm hT hC (ratio_Make_g0 (ratio_Make_K d) (x.1.1, x.2.1.1)) h ?_
  intro y0 h
  refine cn_then ?_
  refine run_seq ?_
  refine run_seq ?_
  refine run_reg hm hT hC (ratio_Make_g1 (ratio_Make_K d) y0) h ?_
  intro y1 h
  refine cn_then ?_
  refine run_cond (v := y1.2.2.1) (by kernel_rfl) h ?_ ?_
  ·
    intro h
    refine run_seq ?_
    refine run_reg hm hT hC (ratio_Make_g2 (ratio_Make_K d) y1) h ?_
    intro y2 h
    refine cn_then ?_
    refine run_ret ?_
    refine cn_then_ret ?_
    cases h
    exact (hend _ (by kernel_rfl)).2
  ·
    intro h
    refine run_skip ?_
    refine cn_then ?_
    refine run_seq ?_
    refine run_reg hm hT hC (ratio_Make_g3 (ratio_Make_K d) y1) h ?_
    intro y3 h
    refine cn_then ?_
    refine run_seq ?_
    refine run_reg hm hT hC (ratio_Make_g4 (ratio_Make_K d) y3) h ?_
    intro y4 h
    refine cn_then ?_
    refine run_ret ?_
    cases h
    exact (hend _ (by kernel_rfl)).2
abbrev course_Meet_ps : List Pk := [.row Riii true, .row Riii true]
abbrev course_Meet_X : Type := Diii × Diii × Unit
abbrev course_Meet_R : Type := Int × Int × Int
def course_Meet_enc (r : course_Meet_R) : LV × List Ob := (.tup [.agg [.int .i64 r.1, .int .i64 r.2.1], .int .i64 r.2.2], [])
def course_Meet_sp (F : course_Meet_X → Option course_Meet_R) : Go.Tx.Spec := ⟨73, course_Meet_ps, course_Meet_R, F, course_Meet_enc⟩
abbrev course_Meet_C : Type := (course_two_X → Option course_two_R) × (ratio_Make_X → Option ratio_Make_R) × Unit
def course_Meet_K (d : Nat) : course_Meet_C := (F_course_two d, F_ratio_Make d, ())
def course_Meet_tab (C : course_Meet_C) : List Go.Tx.Spec := [course_two_sp C.1, ratio_Make_sp C.2.1]
abbrev course_Meet_Y0i : Type := Int × Int × Int × Int × Int × Int
def course_Meet_S0i (v : course_Meet_Y0i) : St := ⟨[(0, .agg [.int .i64 v.1, .int .i64 v.2.1, .int .i64 v.2.2.1]), (1, .agg [.int .i64 v.2.2.2.1, .int .i64 v.2.2.2.2.1, .int .i64 v.2.2.2.2.2])], []⟩
abbrev course_Meet_Y0 : Type := Int × Int × Int × Int × Int × Int × Int × Int
def course_Meet_S0 (v : course_Meet_Y0) : St := ⟨[(2, .ptr 0 0), (3, .ptr 1 0), (4, .ptr 2 0)], [.cells [.int .i64 v.1, .int .i64 v.2.1, .int .i64 v.2.2.1], .cells [.int .i64 v.2.2.2.1, .int .i64 v.2.2.2.2.1, .int .i64 v.2.2.2.2.2.1], .cells [.int .i64 v.2.2.2.2.2.2.1, .int .i64 v.2.2.2.2.2.2.2]]⟩
def course_Meet_r0 (C : course_Meet_C) (v : course_Meet_Y0i) : Dt course_Meet_Y0 := (Dt.ret (v.1, v.2.1, v.2.2.1, v.2.2.2.1, v.2.2.2.2.1, v.2.2.2.2.2, (0:Int), (0:Int)))
theorem course_Meet_g0 (C : course_Meet_C) (v : course_Meet_Y0i) : treg tysT (orc (course_Meet_tab C)) 34 (regO (bodyOf f73) 0) false [(2, .any), (3, .any), (4, .any)] (course_Meet_S0i v) some = (course_Meet_r0 C v).eval fun y => some (course_Meet_S0 y) := by kernel_rfl
abbrev course_Meet_Y1 : Type := Int × Int × Int × Int × Int × Int × Int × Int × Int
def course_Meet_S1 (v : course_Meet_Y1) : St := ⟨[(2, .ptr 0 0), (3, .ptr 1 0), (4, .ptr 2 0), (6, .int .i64 v.1)], [.cells [.int .i64 v.2.1, .int .i64 v.2.2.1, .int .i64 v.2.2.2.1], .cells [.int .i64 v.2.2.2.2.1, .int .i64 v.2.2.2.2.2.1, .int .i64 v.2.2.2.2.2.2.1], .cells [.int .i64 v.2.2.2.2.2.2.2.1, .int .i64 v.2.2.2.2.2.2.2.2]]⟩
def course_Meet_r1 (C : course_Meet_C) (v : course_Meet_Y0) : Dt course_Meet_Y1 := (Dt.bnd (C.1 ((v.1, v.2.1, v.2.2.1, ()), (v.2.2.2.1, v.2.2.2.2.1, v.2.2.2.2.2.1, ()), ((0:Int), (1:Int), ()), ())) fun r1 => (Dt.ret (r1, v.1, v.2.1, v.2.2.1, v.2.2.2.1, v.2.2.2.2.1, v.2.2.2.2.2.1, v.2.2.2.2.2.2.1, v.2.2.2.2.2.2.2)))
theorem course_Meet_g1 (C : course_Meet_C) (v : course_Meet_Y0) : treg tysT (orc (course_Meet_tab C)) 34 (regO (bodyOf f73) 1) false [(2, .any), (3, .any), (4, .any), (6, .any)] (course_Meet_S0 v) some = (course_Meet_r1 C v).eval fun y => some (course_Meet_S1 y) := by kernel_rfl
abbrev course_Meet_Y2 : Type := Int × Bool × Int × Int × Int × Int × Int × Int × Int × Int
def course_Meet_S2 (v : course_Meet_Y2) : St := ⟨[(2, .ptr 0 0), (3, .ptr 1 0), (4, .ptr 2 0), (6, .int .i64 v.1), (12, .bool v.2.1)], [.cells [.int .i64 v.2.2.1, .int .i64 v.2.2.2.1, .int .i64 v.2.2.2.2.1], .cells [.int .i64 v.2.2.2.2.2.1, .int .i64 v.2.2.2.2.2.2.1, .int .i64 v.2.2.2.2.2.2.2.1], .cells [.int .i64 v.2.2.2.2.2.2.2.2.1, .int .i64 v.2.2.2.2.2.2.2.2.2]]⟩
def course_Meet_r2 (C : course_Meet_C) (v : course_Meet_Y1) : Dt course_Meet_Y2 := (Dt.ret (v.1, (v.1 != (0:Int)), v.2.1, v.2.2.1, v.2.2.2.1, v.2.2.2.2.1, v.2.2.2.2.2.1, v.2.2.2.2.2.2.1, v.2.2.2.2.2.2.2.1, v.2.2.2.2.2.2.2.2))
theorem course_Meet_g2 (C : course_Meet_C) (v : course_Meet_Y1) : treg tysT (orc (course_Meet_tab C)) 34 (regO (bodyOf f73) 2) false [(2, .any), (3, .any), (4, .any), (6, .any), (12, .any)] (course_Meet_S1 v) some = (course_Meet_r2 C v).eval fun y => some (course_Meet_S2 y) := by kernel_rfl
abbrev course_Meet_Y3 : Type := Int × Int × Int
def course_Meet_S3 (v : course_Meet_Y3) : St := ⟨[(4, .ptr 0 0), (5, .int .i64 v.1)], [.cells [.int .i64 v.2.1, .int .i64 v.2.2]]⟩
def course_Meet_r3 (C : course_Meet_C) (v : course_Meet_Y2) : Dt course_Meet_Y3 := (Dt.ret (v.1, (0:Int), (0:Int)))
theorem course_Meet_g3 (C : course_Meet_C) (v : course_Meet_Y2) : treg tysT (orc (course_Meet_tab C)) 34 (regO (bodyOf f73) 3) false [(4, .any), (5, .any)] (course_Meet_S2 v) some = (course_Meet_r3 C v).eval fun y => some (course_Meet_S3 y) := by kernel_rfl
abbrev course_Meet_Y4 : Type := Bool × Int × Int × Int × Int × Int × Int × Int × Int
def course_Meet_S4 (v : course_Meet_Y4) : St := ⟨[(2, .ptr 0 0), (3, .ptr 1 0), (4, .ptr 2 0), (19, .bool v.1)], [.cells [.int .i64 v.2.1, .int .i64 v.2.2.1, .int .i64 v.2.2.2.1], .cells [.int .i64 v.2.2.2.2.1, .int .i64 v.2.2.2.2.2.1, .int .i64 v.2.2.2.2.2.2.1], .cells [.int .i64 v.2.2.2.2.2.2.2.1, .int .i64 v.2.2.2.2.2.2.2.2]]⟩
def course_Meet_r4 (C : course_Meet_C) (v : course_Meet_Y2) : Dt course_Meet_Y4 := (Dt.ret ((v.2.2.2.2.1 == v.2.2.2.2.2.2.2.1), v.2.2.1, v.2.2.2.1, v.2.2.2.2.1, v.2.2.2.2.2.1, v.2.2.2.2.2.2.1, v.2.2.2.2.2.2.2.1, v.2.2.2.2.2.2.2.2.1, v.2.2.2.2.2.2.2.2.2))
theorem course_Meet_g4 (C : course_Meet_C) (v : course_Meet_Y2) : treg tysT (orc (course_Meet_tab C)) 34 (regO (bodyOf f73) 4) false [(2, .any), (3, .any), (4, .any), (19, .any)] (course_Meet_S2 v) some = (course_Meet_r4 C v).eval fun y => some (course_Meet_S4 y) := by kernel_rfl
def course_Meet_r5 (C : course_Meet_C) (v : course_Meet_Y4) : Dt course_Meet_Y3 := (Dt.ret ((6:Int), (0:Int), (0:Int)))
theorem course_Meet_g5 (C : course_Meet_C) (v : course_Meet_Y4) : treg tysT (orc (course_Meet_tab C)) 34 (regO (bodyOf f73) 5) false [(4, .any), (5, .any)] (course_Meet_S4 v) some = (course_Meet_r5 C v).eval fun y => some (course_Meet_S3 y) := by kernel_rfl
def course_Meet_r6 (C : course_Meet_C) (v : course_Meet_Y4) : Dt course_Meet_Y3 := (Dt.bnd (C.2.1 (((IntKind.wrap .i64 (v.2.2.1 - v.2.2.2.2.2.1)), ()), ((IntKind.wrap .i64 (v.2.2.2.2.2.2.1 - v.2.2.2.1)), ()), ())) fun r1 => (Dt.ret (r1.2.2, r1.1, r1.2.1)))
theorem course_Meet_g6 (C : course_Meet_C) (v : course_Meet_Y4) : treg tysT (orc (course_Meet_tab C)) 34 (regO (bodyOf f73) 6) false [(4, .any), (5, .any)] (course_Meet_S4 v) some = (course_Meet_r6 C v).eval fun y => some (course_Meet_S3 y) := by kernel_rfl
def F_course_Meet (d : Nat) (x : course_Meet_X) : Option course_Meet_R :=
  (course_Meet_r0 (course_Meet_K d) (x.1.1, x.1.2.1, x.1.2.2.1, x.2.1.1, x.2.1.2.1, x.2.1.2.2.1)).eval fun y0 =>
  (course_Meet_r1 (course_Meet_K d) y0).eval fun y1 =>
  (course_Meet_r2 (course_Meet_K d) y1).eval fun y2 =>
  bif y2.2.1 then ((course_Meet_r3 (course_Meet_K d) y2).eval fun y3 =>
  some (y3.2.1, y3.2.2, y3.1)) else ((course_Meet_r4 (course_Meet_K d) y2).eval fun y4 =>
  bif y4.1 then ((course_Meet_r5 (course_Meet_K d) y4).eval fun y5 =>
  some (y5.2.1, y5.2.2, y5.1)) else ((course_Meet_r6 (course_Meet_K d) y4).eval fun y6 =>
  some (y6.2.1, y6.2.2, y6.1)))
theorem course_Meet_cok (d : Nat) : COK prog (course_Meet_sp (F_course_Meet d)) := by
  have hm : prog.follows .mixedOrders = true := mixed
  have hT := tys
  have hC0 : OrcOK prog (orc (course_Meet_tab (course_Meet_K d))) := orc_ok (by
    intro S hS
    simp only [course_Meet_tab, List.mem_cons, List.not_mem_nil, or_false] at hS
    rcases hS with rfl | rfl
    · exact course_two_cok d
    · exact ratio_Make_cok d)
  have hC : OrcOK prog (orc (course_Meet_tab (course_Meet_K d))) := hC0
  refine cok_of (c := bodyOf f73) (fn := f73) hT (by kernel_rfl) (by kernel_rfl) (by decide) fun x r h w0 φ0 Q hend => ?_
  replace h : F_course_Meet d x = some r := h
  unfold F_course_Meet at h
  show Run prog w0 φ0 34 (bodyOf f73) ⟨[(0, .agg [.int .i64 x.1.1, .int .i64 x.1.2.1, .int .i64 x.1.2.2.1]), (1, .agg [.int .i64 x.2.1.1, .int .i64 x.2.1.2.1, .int .i64 x.2.1.2.2.1])], []⟩ Q
  refine run_seq ?_
  refine run_reg hm hT hC (course_Meet_g0 (course_Meet_K d) (x.1.1, x.1.2.1, x.1.2.2.1, x.2.1.1, x.2.1.2.1, x.2.1.2.2.1)) h ?_
  intro y0 h
  refine cn_then ?_
  refine run_seq ?_
  refine run_seq ?_
  refine run_reg hm hT hC (course_Meet_g1 (course_Meet_K d) y0) h ?_
  intro y1 h
  refine cn_then ?_
  refine run_seq ?_
  refine run_reg hm hT hC (course_Meet_g2 (course_Meet_K d) y1) h ?_
  intro y2 h
  refine cn_then ?_
  refine run_cond (v := y2.2.1) (by kernel_rfl) h ?_ ?_
  ·
    intro h
    refine run_seq ?_
    refine run_reg hm hT hC (course_Meet_g3 (course_Meet_K d) y2) h ?_
    intro y3 h
    refine cn_then ?_
    refine run_ret ?_
    refine cn_then_ret ?_
    cases h
    exact (hend _ (by kernel_rfl)).2
  ·
    intro h
    refine run_skip ?_
    refine cn_then ?_
    refine run_seq ?_
    refine run_seq ?_
    refine run_reg hm hT hC (course_Meet_g4 (course_Meet_K d) y2) h ?_
    intro y4 h
    refine cn_then ?_
    refine run_cond (v := y4.1) (by kernel_rfl) h ?_ ?_
    ·
      intro h
      refine run_seq ?_
      refine run_reg hm hT hC (course_Meet_g5 (course_Meet_K d) y4) h ?_
      intro y5 h
      refine cn_then ?_
      refine run_ret ?_
      refine cn_then_ret ?_
      cases h
      exact (hend _ (by kernel_rfl)).2
    ·
      intro h
      refine run_skip ?_
      refine cn_then ?_
      refine run_seq ?_
      refine run_reg hm hT hC (course_Meet_g6 (course_Meet_K d) y4) h ?_
      intro y6 h
      refine cn_then ?_
      refine run_ret ?_
      cases h
      exact (hend _ (by kernel_rfl)).2
abbrev course_Fails_ps : List Pk := [.row Riii true, .row Riii true, .row Rii true]
abbrev course_Fails_X : Type := Diii × Diii × Dii × Unit
abbrev course_Fails_R : Type := Int × Int × Bool × Int
def course_Fails_enc (r : course_Fails_R) : LV × List Ob := (.tup [.agg [.int .i64 r.1, .int .i64 r.2.1], .bool r.2.2.1, .int .i64 r.2.2.2], [])
def course_Fails_sp (F : course_Fails_X → Option course_Fails_R) : Go.Tx.Spec := ⟨45, course_Fails_ps, course_Fails_R, F, course_Fails_enc⟩
abbrev course_Fails_C : Type := (course_Meet_X → Option course_Meet_R) × (course_two_X → Option course_two_R) × (course_compare_X → Option course_compare_R) × Unit
def course_Fails_K (d : Nat) : course_Fails_C := (F_course_Meet d, F_course_two d, F_course_compare d, ())
def course_Fails_tab (C : course_Fails_C) : List Go.Tx.Spec := [course_Meet_sp C.1, course_two_sp C.2.1, course_compare_sp C.2.2.1]
abbrev course_Fails_Y0i : Type := Int × Int × Int × Int × Int × Int × Int × Int
def course_Fails_S0i (v : course_Fails_Y0i) : St := ⟨[(0, .agg [.int .i64 v.1, .int .i64 v.2.1, .int .i64 v.2.2.1]), (1, .agg [.int .i64 v.2.2.2.1, .int .i64 v.2.2.2.2.1, .int .i64 v.2.2.2.2.2.1]), (2, .agg [.int .i64 v.2.2.2.2.2.2.1, .int .i64 v.2.2.2.2.2.2.2])], []⟩
abbrev course_Fails_Y0 : Type := Int × Int × Int × Int × Int × Int × Int × Int × Int × Int
def course_Fails_S0 (v : course_Fails_Y0) : St := ⟨[(3, .ptr 0 0), (4, .ptr 1 0), (5, .ptr 2 0), (6, .ptr 3 0)], [.cells [.int .i64 v.1, .int .i64 v.2.1, .int .i64 v.2.2.1], .cells [.int .i64 v.2.2.2.1, .int .i64 v.2.2.2.2.1, .int .i64 v.2.2.2.2.2.1], .cells [.int .i64 v.2.2.2.2.2.2.1, .int .i64 v.2.2.2.2.2.2.2.1], .cells [.int .i64 v.2.2.2.2.2.2.2.2.1, .int .i64 v.2.2.2.2.2.2.2.2.2]]⟩
def course_Fails_r0 (C : course_Fails_C) (v : course_Fails_Y0i) : Dt course_Fails_Y0 := (Dt.ret (v.1, v.2.1, v.2.2.1, v.2.2.2.1, v.2.2.2.2.1, v.2.2.2.2.2.1, v.2.2.2.2.2.2.1, v.2.2.2.2.2.2.2, (0:Int), (0:Int)))
theorem course_Fails_g0 (C : course_Fails_C) (v : course_Fails_Y0i) : treg tysT (orc (course_Fails_tab C)) 42 (regO (bodyOf f45) 0) false [(3, .any), (4, .any), (5, .any), (6, .any)] (course_Fails_S0i v) some = (course_Fails_r0 C v).eval fun y => some (course_Fails_S0 y) := by kernel_rfl
abbrev course_Fails_Y1 : Type := Int × Int × Int × Int × Int × Int × Int × Int × Int × Int × Int
def course_Fails_S1 (v : course_Fails_Y1) : St := ⟨[(3, .ptr 0 0), (4, .ptr 1 0), (5, .ptr 2 0), (6, .ptr 3 0), (9, .int .i64 v.1)], [.cells [.int .i64 v.2.1, .int .i64 v.2.2.1, .int .i64 v.2.2.2.1], .cells [.int .i64 v.2.2.2.2.1, .int .i64 v.2.2.2.2.2.1, .int .i64 v.2.2.2.2.2.2.1], .cells [.int .i64 v.2.2.2.2.2.2.2.1, .int .i64 v.2.2.2.2.2.2.2.2.1], .cells [.int .i64 v.2.2.2.2.2.2.2.2.2.1, .int .i64 v.2.2.2.2.2.2.2.2.2.2]]⟩
def course_Fails_r1 (C : course_Fails_C) (v : course_Fails_Y0) : Dt course_Fails_Y1 := (Dt.bnd (C.2.1 ((v.1, v.2.1, v.2.2.1, ()), (v.2.2.2.1, v.2.2.2.2.1, v.2.2.2.2.2.1, ()), (v.2.2.2.2.2.2.1, v.2.2.2.2.2.2.2.1, ()), ())) fun r1 => (Dt.ret (r1, v.1, v.2.1, v.2.2.1, v.2.2.2.1, v.2.2.2.2.1, v.2.2.2.2.2.1, v.2.2.2.2.2.2.1, v.2.2.2.2.2.2.2.1, v.2.2.2.2.2.2.2.2.1, v.2.2.2.2.2.2.2.2.2)))
theorem course_Fails_g1 (C : course_Fails_C) (v : course_Fails_Y0) : treg tysT (orc (course_Fails_tab C)) 42 (regO (bodyOf f45) 1) false [(3, .any), (4, .any), (5, .any), (6, .any), (9, .any)] (course_Fails_S0 v) some = (course_Fails_r1 C v).eval fun y => some (course_Fails_S1 y) := by kernel_rfl
abbrev course_Fails_Y2 : Type := Int × Bool × Int × Int × Int × Int × Int × Int × Int × Int × Int × Int
def course_Fails_S2 (v : course_Fails_Y2) : St := ⟨[(3, .ptr 0 0), (4, .ptr 1 0), (5, .ptr 2 0), (6, .ptr 3 0), (9, .int .i64 v.1), (17, .bool v.2.1)], [.cells [.int .i64 v.2.2.1, .int .i64 v.2.2.2.1, .int .i64 v.2.2.2.2.1], .cells [.int .i64 v.2.2.2.2.2.1, .int .i64 v.2.2.2.2.2.2.1, .int .i64 v.2.2.2.2.2.2.2.1], .cells [.int .i64 v.2.2.2.2.2.2.2.2.1, .int .i64 v.2.2.2.2.2.2.2.2.2.1], .cells [.int .i64 v.2.2.2.2.2.2.2.2.2.2.1, .int .i64 v.2.2.2.2.2.2.2.2.2.2.2]]⟩
def course_Fails_r2 (C : course_Fails_C) (v : course_Fails_Y1) : Dt course_Fails_Y2 := (Dt.ret (v.1, (v.1 != (0:Int)), v.2.1, v.2.2.1, v.2.2.2.1, v.2.2.2.2.1, v.2.2.2.2.2.1, v.2.2.2.2.2.2.1, v.2.2.2.2.2.2.2.1, v.2.2.2.2.2.2.2.2.1, v.2.2.2.2.2.2.2.2.2.1, v.2.2.2.2.2.2.2.2.2.2))
theorem course_Fails_g2 (C : course_Fails_C) (v : course_Fails_Y1) : treg tysT (orc (course_Fails_tab C)) 42 (regO (bodyOf f45) 2) false [(3, .any), (4, .any), (5, .any), (6, .any), (9, .any), (17, .any)] (course_Fails_S1 v) some = (course_Fails_r2 C v).eval fun y => some (course_Fails_S2 y) := by kernel_rfl
abbrev course_Fails_Y3 : Type := Bool × Int × Int × Int
def course_Fails_S3 (v : course_Fails_Y3) : St := ⟨[(6, .ptr 0 0), (7, .bool v.1), (8, .int .i64 v.2.1)], [.cells [.int .i64 v.2.2.1, .int .i64 v.2.2.2]]⟩
def course_Fails_r3 (C : course_Fails_C) (v : course_Fails_Y2) : Dt course_Fails_Y3 := (Dt.ret (false, v.1, (0:Int), (0:Int)))
theorem course_Fails_g3 (C : course_Fails_C) (v : course_Fails_Y2) : treg tysT (orc (course_Fails_tab C)) 42 (regO (bodyOf f45) 3) false [(6, .any), (7, .any), (8, .any)] (course_Fails_S2 v) some = (course_Fails_r3 C v).eval fun y => some (course_Fails_S3 y) := by kernel_rfl
abbrev course_Fails_Y4 : Type := Bool × Int × Int × Int × Int × Int × Int × Int × Int × Int × Int
def course_Fails_S4 (v : course_Fails_Y4) : St := ⟨[(3, .ptr 0 0), (4, .ptr 1 0), (5, .ptr 2 0), (6, .ptr 3 0), (24, .bool v.1)], [.cells [.int .i64 v.2.1, .int .i64 v.2.2.1, .int .i64 v.2.2.2.1], .cells [.int .i64 v.2.2.2.2.1, .int .i64 v.2.2.2.2.2.1, .int .i64 v.2.2.2.2.2.2.1], .cells [.int .i64 v.2.2.2.2.2.2.2.1, .int .i64 v.2.2.2.2.2.2.2.2.1], .cells [.int .i64 v.2.2.2.2.2.2.2.2.2.1, .int .i64 v.2.2.2.2.2.2.2.2.2.2]]⟩
def course_Fails_r4 (C : course_Fails_C) (v : course_Fails_Y2) : Dt course_Fails_Y4 := (Dt.bnd (C.2.2.1 ((v.2.2.2.2.2.1, v.2.2.2.2.2.2.1, v.2.2.2.2.2.2.2.1, ()), (v.2.2.1, v.2.2.2.1, v.2.2.2.2.1, ()), (v.2.2.2.2.2.2.2.2.1, v.2.2.2.2.2.2.2.2.2.1, ()), ())) fun r1 => (Dt.ret ((decide (r1 > (0:Int))), v.2.2.1, v.2.2.2.1, v.2.2.2.2.1, v.2.2.2.2.2.1, v.2.2.2.2.2.2.1, v.2.2.2.2.2.2.2.1, v.2.2.2.2.2.2.2.2.1, v.2.2.2.2.2.2.2.2.2.1, v.2.2.2.2.2.2.2.2.2.2.1, v.2.2.2.2.2.2.2.2.2.2.2)))
theorem course_Fails_g4 (C : course_Fails_C) (v : course_Fails_Y2) : treg tysT (orc (course_Fails_tab C)) 42 (regO (bodyOf f45) 4) false [(3, .any), (4, .any), (5, .any), (6, .any), (24, .any)] (course_Fails_S2 v) some = (course_Fails_r4 C v).eval fun y => some (course_Fails_S4 y) := by kernel_rfl
def course_Fails_r5 (C : course_Fails_C) (v : course_Fails_Y4) : Dt course_Fails_Y3 := (Dt.ret (true, (0:Int), v.2.2.2.2.2.2.2.1, v.2.2.2.2.2.2.2.2.1))
theorem course_Fails_g5 (C : course_Fails_C) (v : course_Fails_Y4) : treg tysT (orc (course_Fails_tab C)) 42 (regO (bodyOf f45) 5) false [(6, .any), (7, .any), (8, .any)] (course_Fails_S4 v) some = (course_Fails_r5 C v).eval fun y => some (course_Fails_S3 y) := by kernel_rfl
abbrev course_Fails_Y6 : Type := Bool × Int × Int × Int × Int × Int × Int × Int × Int
def course_Fails_S6 (v : course_Fails_Y6) : St := ⟨[(3, .ptr 0 0), (4, .ptr 1 0), (6, .ptr 2 0), (30, .bool v.1)], [.cells [.int .i64 v.2.1, .int .i64 v.2.2.1, .int .i64 v.2.2.2.1], .cells [.int .i64 v.2.2.2.2.1, .int .i64 v.2.2.2.2.2.1, .int .i64 v.2.2.2.2.2.2.1], .cells [.int .i64 v.2.2.2.2.2.2.2.1, .int .i64 v.2.2.2.2.2.2.2.2]]⟩
def course_Fails_r6 (C : course_Fails_C) (v : course_Fails_Y4) : Dt course_Fails_Y6 := (Dt.ret ((decide (v.2.2.2.2.2.2.1 ≤ v.2.2.2.1)), v.2.1, v.2.2.1, v.2.2.2.1, v.2.2.2.2.1, v.2.2.2.2.2.1, v.2.2.2.2.2.2.1, v.2.2.2.2.2.2.2.2.2.1, v.2.2.2.2.2.2.2.2.2.2))
theorem course_Fails_g6 (C : course_Fails_C) (v : course_Fails_Y4) : treg tysT (orc (course_Fails_tab C)) 42 (regO (bodyOf f45) 6) false [(3, .any), (4, .any), (6, .any), (30, .any)] (course_Fails_S4 v) some = (course_Fails_r6 C v).eval fun y => some (course_Fails_S6 y) := by kernel_rfl
def course_Fails_r7 (C : course_Fails_C) (v : course_Fails_Y6) : Dt course_Fails_Y3 := (Dt.ret (false, (0:Int), (0:Int), (0:Int)))
theorem course_Fails_g7 (C : course_Fails_C) (v : course_Fails_Y6) : treg tysT (orc (course_Fails_tab C)) 42 (regO (bodyOf f45) 7) false [(6, .any), (7, .any), (8, .any)] (course_Fails_S6 v) some = (course_Fails_r7 C v).eval fun y => some (course_Fails_S3 y) := by kernel_rfl
abbrev course_Fails_Y8 : Type := Int × Int × Int × Int × Int
def course_Fails_S8 (v : course_Fails_Y8) : St := ⟨[(6, .ptr 0 0), (10, .ptr 1 0), (11, .int .i64 v.1)], [.cells [.int .i64 v.2.1, .int .i64 v.2.2.1], .cells [.int .i64 v.2.2.2.1, .int .i64 v.2.2.2.2]]⟩
def course_Fails_r8 (C : course_Fails_C) (v : course_Fails_Y6) : Dt course_Fails_Y8 := (Dt.bnd (C.1 ((v.2.1, v.2.2.1, v.2.2.2.1, ()), (v.2.2.2.2.1, v.2.2.2.2.2.1, v.2.2.2.2.2.2.1, ()), ())) fun r1 => (Dt.ret (r1.2.2, v.2.2.2.2.2.2.2.1, v.2.2.2.2.2.2.2.2, r1.1, r1.2.1)))
theorem course_Fails_g8 (C : course_Fails_C) (v : course_Fails_Y6) : treg tysT (orc (course_Fails_tab C)) 42 (regO (bodyOf f45) 8) false [(6, .any), (10, .any), (11, .any)] (course_Fails_S6 v) some = (course_Fails_r8 C v).eval fun y => some (course_Fails_S8 y) := by kernel_rfl
def course_Fails_r9 (C : course_Fails_C) (v : course_Fails_Y8) : Dt course_Fails_Y3 := (Dt.ret ((v.1 == (0:Int)), v.1, v.2.2.2.1, v.2.2.2.2))
theorem course_Fails_g9 (C : course_Fails_C) (v : course_Fails_Y8) : treg tysT (orc (course_Fails_tab C)) 42 (regO (bodyOf f45) 9) false [(6, .any), (7, .any), (8, .any)] (course_Fails_S8 v) some = (course_Fails_r9 C v).eval fun y => some (course_Fails_S3 y) := by kernel_rfl
def F_course_Fails (d : Nat) (x : course_Fails_X) : Option course_Fails_R :=
  (course_Fails_r0 (course_Fails_K d) (x.1.1, x.1.2.1, x.1.2.2.1, x.2.1.1, x.2.1.2.1, x.2.1.2.2.1, x.2.2.1.1, x.2.2.1.2.1)).eval fun y0 =>
  (course_Fails_r1 (course_Fails_K d) y0).eval fun y1 =>
  (course_Fails_r2 (course_Fails_K d) y1).eval fun y2 =>
  bif y2.2.1 then ((course_Fails_r3 (course_Fails_K d) y2).eval fun y3 =>
  some (y3.2.2.1, y3.2.2.2, y3.1, y3.2.1)) else ((course_Fails_r4 (course_Fails_K d) y2).eval fun y4 =>
  bif y4.1 then ((course_Fails_r5 (course_Fails_K d) y4).eval fun y5 =>
  some (y5.2.2.1, y5.2.2.2, y5.1, y5.2.1)) else ((course_Fails_r6 (course_Fails_K d) y4).eval fun y6 =>
  bif y6.1 then ((course_Fails_r7 (course_Fails_K d) y6).eval fun y7 =>
  some (y7.2.2.1, y7.2.2.2, y7.1, y7.2.1)) else ((course_Fails_r8 (course_Fails_K d) y6).eval fun y8 =>
  (course_Fails_r9 (course_Fails_K d) y8).eval fun y9 =>
  some (y9.2.2.1, y9.2.2.2, y9.1, y9.2.1))))
theorem course_Fails_cok (d : Nat) : COK prog (course_Fails_sp (F_course_Fails d)) := by
  have hm : prog.follows .mixedOrders = true := mixed
  have hT := tys
  have hC0 : OrcOK prog (orc (course_Fails_tab (course_Fails_K d))) := orc_ok (by
    intro S hS
    simp only [course_Fails_tab, List.mem_cons, List.not_mem_nil, or_false] at hS
    rcases hS with rfl | rfl | rfl
    · exact course_Meet_cok d
    · exact course_two_cok d
    · exact course_compare_cok d)
  have hC : OrcOK prog (orc (course_Fails_tab (course_Fails_K d))) := hC0
  refine cok_of (c := bodyOf f45) (fn := f45) hT (by kernel_rfl) (by kernel_rfl) (by decide) fun x r h w0 φ0 Q hend => ?_
  replace h : F_course_Fails d x = some r := h
  unfold F_course_Fails at h
  show Run prog w0 φ0 42 (bodyOf f45) ⟨[(0, .agg [.int .i64 x.1.1, .int .i64 x.1.2.1, .int .i64 x.1.2.2.1]), (1, .agg [.int .i64 x.2.1.1, .int .i64 x.2.1.2.1, .int .i64 x.2.1.2.2.1]), (2, .agg [.int .i64 x.2.2.1.1, .int .i64 x.2.2.1.2.1])], []⟩ Q
  refine run_seq ?_
  refine run_reg hm hT hC (course_Fails_g0 (course_Fails_K d) (x.1.1, x.1.2.1, x.1.2.2.1, x.2.1.1, x.2.1.2.1, x.2.1.2.2.1, x.2.2.1.1, x.2.2.1.2.1)) h ?_
  intro y0 h
  refine cn_then ?_
  refine run_seq ?_
  refine run_seq ?_
  refine run_reg hm hT hC (course_Fails_g1 (course_Fails_K d) y0) h ?_
  intro y1 h
  refine cn_then ?_
  refine run_seq ?_
  refine run_reg hm hT hC (course_Fails_g2 (course_Fails_K d) y1) h ?_
  intro y2 h
  refine cn_then ?_
  refine run_cond (v := y2.2.1) (by kernel_rfl) h ?_ ?_
  ·
    intro h
    refine run_seq ?_
    refine run_reg hm hT hC (course_Fails_g3 (course_Fails_K d) y2) h ?_
    intro y3 h
    refine cn_then ?_
    refine run_ret ?_
    refine cn_then_ret ?_
    cases h
    exact (hend _ (by kernel_rfl)).2
  ·
    intro h
    refine run_skip ?_
    refine cn_then ?_
    refine run_seq ?_
    refine run_seq ?_
    refine run_reg hm hT hC (course_Fails_g4 (course_Fails_K d) y2) h ?_
    intro y4 h
    refine cn_then ?_
    refine run_cond (v := y4.1) (by kernel_rfl) h ?_ ?_
    ·
      intro h
      refine run_seq ?_
      refine run_reg hm hT hC (course_Fails_g5 (course_Fails_K d) y4) h ?_
      intro y5 h
      refine cn_then ?_
      refine run_ret ?_
      refine cn_then_ret ?_
      cases h
      exact (hend _ (by kernel_rfl)).2
    ·
      intro h
      refine run_skip ?_
      refine cn_then ?_
      refine run_seq ?_
      refine run_seq ?_
      refine run_reg hm hT hC (course_Fails_g6 (course_Fails_K d) y4) h ?_
      intro y6 h
      refine cn_then ?_
      refine run_cond (v := y6.1) (by kernel_rfl) h ?_ ?_
      ·
        intro h
        refine run_seq ?_
        refine run_reg hm hT hC (course_Fails_g7 (course_Fails_K d) y6) h ?_
        intro y7 h
        refine cn_then ?_
        refine run_ret ?_
        refine cn_then_ret ?_
        cases h
        exact (hend _ (by kernel_rfl)).2
      ·
        intro h
        refine run_skip ?_
        refine cn_then ?_
        refine run_seq ?_
        refine run_reg hm hT hC (course_Fails_g8 (course_Fails_K d) y6) h ?_
        intro y8 h
        refine cn_then ?_
        refine run_seq ?_
        refine run_reg hm hT hC (course_Fails_g9 (course_Fails_K d) y8) h ?_
        intro y9 h
        refine cn_then ?_
        refine run_ret ?_
        cases h
        exact (hend _ (by kernel_rfl)).2
abbrev ratio_Cmp_ps : List Pk := [.row Rii true, .row Rii true]
abbrev ratio_Cmp_X : Type := Dii × Dii × Unit
abbrev ratio_Cmp_R : Type := Int × Int
def ratio_Cmp_enc (r : ratio_Cmp_R) : LV × List Ob := (.tup [.int .i64 r.1, .int .i64 r.2], [])
def ratio_Cmp_sp (F : ratio_Cmp_X → Option ratio_Cmp_R) : Go.Tx.Spec := ⟨63, ratio_Cmp_ps, ratio_Cmp_R, F, ratio_Cmp_enc⟩
abbrev ratio_Cmp_C : Type := (ratio_both_X → Option ratio_both_R) × (cmp_Compare_int64_X → Option cmp_Compare_int64_R) × (ratio_compare_X → Option ratio_compare_R) × (ratio_times_X → Option ratio_times_R) × Unit
def ratio_Cmp_K (d : Nat) : ratio_Cmp_C := (F_ratio_both d, F_cmp_Compare_int64 d, F_ratio_compare d, F_ratio_times d, ())
def ratio_Cmp_tab (C : ratio_Cmp_C) : List Go.Tx.Spec := [ratio_both_sp C.1, cmp_Compare_int64_sp C.2.1, ratio_compare_sp C.2.2.1, ratio_times_sp C.2.2.2.1]
abbrev ratio_Cmp_Y0i : Type := Int × Int × Int × Int
def ratio_Cmp_S0i (v : ratio_Cmp_Y0i) : St := ⟨[(0, .agg [.int .i64 v.1, .int .i64 v.2.1]), (1, .agg [.int .i64 v.2.2.1, .int .i64 v.2.2.2])], []⟩
abbrev ratio_Cmp_Y0 : Type := Int × Int × Int × Int
def ratio_Cmp_S0 (v : ratio_Cmp_Y0) : St := ⟨[(2, .ptr 0 0), (3, .ptr 1 0)], [.cells [.int .i64 v.1, .int .i64 v.2.1], .cells [.int .i64 v.2.2.1, .int .i64 v.2.2.2]]⟩
def ratio_Cmp_r0 (C : ratio_Cmp_C) (v : ratio_Cmp_Y0i) : Dt ratio_Cmp_Y0 := (Dt.ret (v.1, v.2.1, v.2.2.1, v.2.2.2))
theorem ratio_Cmp_g0 (C : ratio_Cmp_C) (v : ratio_Cmp_Y0i) : treg tysT (orc (ratio_Cmp_tab C)) 43 (regO (bodyOf f63) 0) false [(2, .any), (3, .any)] (ratio_Cmp_S0i v) some = (ratio_Cmp_r0 C v).eval fun y => some (ratio_Cmp_S0 y) := by kernel_rfl
abbrev ratio_Cmp_Y1 : Type := Int × Int × Int × Int × Int
def ratio_Cmp_S1 (v : ratio_Cmp_Y1) : St := ⟨[(2, .ptr 0 0), (3, .ptr 1 0), (6, .int .i64 v.1)], [.cells [.int .i64 v.2.1, .int .i64 v.2.2.1], .cells [.int .i64 v.2.2.2.1, .int .i64 v.2.2.2.2]]⟩
def ratio_Cmp_r1 (C : ratio_Cmp_C) (v : ratio_Cmp_Y0) : Dt ratio_Cmp_Y1 := (Dt.bnd (C.1 ((v.1, v.2.1, ()), (v.2.2.1, v.2.2.2, ()), ())) fun r1 => (Dt.ret (r1, v.1, v.2.1, v.2.2.1, v.2.2.2)))
theorem ratio_Cmp_g1 (C : ratio_Cmp_C) (v : ratio_Cmp_Y0) : treg tysT (orc (ratio_Cmp_tab C)) 43 (regO (bodyOf f63) 1) false [(2, .any), (3, .any), (6, .any)] (ratio_Cmp_S0 v) some = (ratio_Cmp_r1 C v).eval fun y => some (ratio_Cmp_S1 y) := by kernel_rfl
abbrev ratio_Cmp_Y2 : Type := Int × Bool × Int × Int × Int × Int
def ratio_Cmp_S2 (v : ratio_Cmp_Y2) : St := ⟨[(2, .ptr 0 0), (3, .ptr 1 0), (6, .int .i64 v.1), (12, .bool v.2.1)], [.cells [.int .i64 v.2.2.1, .int .i64 v.2.2.2.1], .cells [.int .i64 v.2.2.2.2.1, .int .i64 v.2.2.2.2.2]]⟩
def ratio_Cmp_r2 (C : ratio_Cmp_C) (v : ratio_Cmp_Y1) : Dt ratio_Cmp_Y2 := (Dt.ret (v.1, (v.1 != (0:Int)), v.2.1, v.2.2.1, v.2.2.2.1, v.2.2.2.2))
theorem ratio_Cmp_g2 (C : ratio_Cmp_C) (v : ratio_Cmp_Y1) : treg tysT (orc (ratio_Cmp_tab C)) 43 (regO (bodyOf f63) 2) false [(2, .any), (3, .any), (6, .any), (12, .any)] (ratio_Cmp_S1 v) some = (ratio_Cmp_r2 C v).eval fun y => some (ratio_Cmp_S2 y) := by kernel_rfl
abbrev ratio_Cmp_Y3 : Type := Int × Int
def ratio_Cmp_S3 (v : ratio_Cmp_Y3) : St := ⟨[(4, .int .i64 v.1), (5, .int .i64 v.2)], []⟩
def ratio_Cmp_r3 (C : ratio_Cmp_C) (v : ratio_Cmp_Y2) : Dt ratio_Cmp_Y3 := (Dt.ret ((0:Int), v.1))
theorem ratio_Cmp_g3 (C : ratio_Cmp_C) (v : ratio_Cmp_Y2) : treg tysT (orc (ratio_Cmp_tab C)) 43 (regO (bodyOf f63) 3) false [(4, .any), (5, .any)] (ratio_Cmp_S2 v) some = (ratio_Cmp_r3 C v).eval fun y => some (ratio_Cmp_S3 y) := by kernel_rfl
abbrev ratio_Cmp_Y4 : Type := Bool × Int × Int × Int × Int
def ratio_Cmp_S4 (v : ratio_Cmp_Y4) : St := ⟨[(2, .ptr 0 0), (3, .ptr 1 0), (20, .bool v.1)], [.cells [.int .i64 v.2.1, .int .i64 v.2.2.1], .cells [.int .i64 v.2.2.2.1, .int .i64 v.2.2.2.2]]⟩
def ratio_Cmp_r4 (C : ratio_Cmp_C) (v : ratio_Cmp_Y2) : Dt ratio_Cmp_Y4 := (Dt.ret ((!((decide (v.2.2.1 < (0:Int))) == (decide (v.2.2.2.2.1 < (0:Int))))), v.2.2.1, v.2.2.2.1, v.2.2.2.2.1, v.2.2.2.2.2))
theorem ratio_Cmp_g4 (C : ratio_Cmp_C) (v : ratio_Cmp_Y2) : treg tysT (orc (ratio_Cmp_tab C)) 43 (regO (bodyOf f63) 4) false [(2, .any), (3, .any), (20, .any)] (ratio_Cmp_S2 v) some = (ratio_Cmp_r4 C v).eval fun y => some (ratio_Cmp_S4 y) := by kernel_rfl
def ratio_Cmp_r5 (C : ratio_Cmp_C) (v : ratio_Cmp_Y4) : Dt ratio_Cmp_Y3 := (Dt.bnd (C.2.1 ((v.2.1, ()), (v.2.2.2.1, ()), ())) fun r1 => (Dt.ret (r1, (0:Int))))
theorem ratio_Cmp_g5 (C : ratio_Cmp_C) (v : ratio_Cmp_Y4) : treg tysT (orc (ratio_Cmp_tab C)) 43 (regO (bodyOf f63) 5) false [(4, .any), (5, .any)] (ratio_Cmp_S4 v) some = (ratio_Cmp_r5 C v).eval fun y => some (ratio_Cmp_S3 y) := by kernel_rfl
abbrev ratio_Cmp_Y6 : Type := Int × Int × Int
def ratio_Cmp_S6 (v : ratio_Cmp_Y6) : St := ⟨[(2, .ptr 0 0), (7, .int .i64 v.1)], [.cells [.int .i64 v.2.1, .int .i64 v.2.2]]⟩
def ratio_Cmp_r6 (C : ratio_Cmp_C) (v : ratio_Cmp_Y4) : Dt ratio_Cmp_Y6 := (Dt.bnd (C.2.2.2.1 ((v.2.1, ()), (v.2.2.2.2, ()), ())) fun r1 => (Dt.bnd (C.2.2.2.1 ((v.2.2.2.1, ()), (v.2.2.1, ()), ())) fun r2 => (Dt.bnd (C.2.2.1 ((r1.1, r1.2.1, r1.2.2, ()), (r2.1, r2.2.1, r2.2.2, ()), ())) fun r3 => (Dt.ret (r3, v.2.1, v.2.2.1)))))
theorem ratio_Cmp_g6 (C : ratio_Cmp_C) (v : ratio_Cmp_Y4) : treg tysT (orc (ratio_Cmp_tab C)) 43 (regO (bodyOf f63) 6) true [(2, .any), (7, .any)] (ratio_Cmp_S4 v) some = (ratio_Cmp_r6 C v).eval fun y => some (ratio_Cmp_S6 y) := by kernel_rfl
abbrev ratio_Cmp_Y7 : Type := Int × Bool
def ratio_Cmp_S7 (v : ratio_Cmp_Y7) : St := ⟨[(7, .int .i64 v.1), (39, .bool v.2)], []⟩
def ratio_Cmp_r7 (C : ratio_Cmp_C) (v : ratio_Cmp_Y6) : Dt ratio_Cmp_Y7 := (Dt.ret (v.1, (decide (v.2.1 < (0:Int)))))
theorem ratio_Cmp_g7 (C : ratio_Cmp_C) (v : ratio_Cmp_Y6) : treg tysT (orc (ratio_Cmp_tab C)) 43 (regO (bodyOf f63) 7) false [(7, .any), (39, .any)] (ratio_Cmp_S6 v) some = (ratio_Cmp_r7 C v).eval fun y => some (ratio_Cmp_S7 y) := by kernel_rfl
abbrev ratio_Cmp_Y8 : Type := Int
def ratio_Cmp_S8 (v : ratio_Cmp_Y8) : St := ⟨[(7, .int .i64 v)], []⟩
def ratio_Cmp_r8 (C : ratio_Cmp_C) (v : ratio_Cmp_Y7) : Dt ratio_Cmp_Y8 := (Dt.ret (IntKind.wrap .i64 (0 - v.1)))
theorem ratio_Cmp_g8 (C : ratio_Cmp_C) (v : ratio_Cmp_Y7) : treg tysT (orc (ratio_Cmp_tab C)) 43 (regO (bodyOf f63) 8) false [(7, .any)] (ratio_Cmp_S7 v) some = (ratio_Cmp_r8 C v).eval fun y => some (ratio_Cmp_S8 y) := by kernel_rfl
def ratio_Cmp_r9 (C : ratio_Cmp_C) (v : ratio_Cmp_Y8) : Dt ratio_Cmp_Y3 := (Dt.ret (v, (0:Int)))
theorem ratio_Cmp_g9 (C : ratio_Cmp_C) (v : ratio_Cmp_Y8) : treg tysT (orc (ratio_Cmp_tab C)) 43 (regO (bodyOf f63) 9) false [(4, .any), (5, .any)] (ratio_Cmp_S8 v) some = (ratio_Cmp_r9 C v).eval fun y => some (ratio_Cmp_S3 y) := by kernel_rfl
def ratio_Cmp_J1  (d : Nat)  (z : Int) : Option (ratio_Cmp_R) :=
  (ratio_Cmp_r9 (ratio_Cmp_K d) z).eval fun y9 =>
  some y9
def F_ratio_Cmp (d : Nat) (x : ratio_Cmp_X) : Option ratio_Cmp_R :=
  (ratio_Cmp_r0 (ratio_Cmp_K d) (x.1.1, x.1.2.1, x.2.1.1, x.2.1.2.1)).eval fun y0 =>
  (ratio_Cmp_r1 (ratio_Cmp_K d) y0).eval fun y1 =>
  (ratio_Cmp_r2 (ratio_Cmp_K d) y1).eval fun y2 =>
  bif y2.2.1 then ((ratio_Cmp_r3 (ratio_Cmp_K d) y2).eval fun y3 =>
  some y3) else ((ratio_Cmp_r4 (ratio_Cmp_K d) y2).eval fun y4 =>
  bif y4.1 then ((ratio_Cmp_r5 (ratio_Cmp_K d) y4).eval fun y5 =>
  some y5) else ((ratio_Cmp_r6 (ratio_Cmp_K d) y4).eval fun y6 =>
  (ratio_Cmp_r7 (ratio_Cmp_K d) y6).eval fun y7 =>
  bif y7.2 then ((ratio_Cmp_r8 (ratio_Cmp_K d) y7).eval fun y8 =>
  ratio_Cmp_J1 d  y8) else (ratio_Cmp_J1 d  y7.1)))
theorem ratio_Cmp_cok (d : Nat) : COK prog (ratio_Cmp_sp (F_ratio_Cmp d)) := by
  have hm : prog.follows .mixedOrders = true := mixed
  have hT := tys
  have hC0 : OrcOK prog (orc (ratio_Cmp_tab (ratio_Cmp_K d))) := orc_ok (by
    intro S hS
    simp only [ratio_Cmp_tab, List.mem_cons, List.not_mem_nil, or_false] at hS
    rcases hS with rfl | rfl | rfl | rfl
    · exact ratio_both_cok d
    · exact cmp_Compare_int64_cok d
    · exact ratio_compare_cok d
    · exact ratio_times_cok d)
  have hC : OrcOK prog (orc (ratio_Cmp_tab (ratio_Cmp_K d))) := hC0
  refine cok_of (c := bodyOf f63) (fn := f63) hT (by kernel_rfl) (by kernel_rfl) (by decide) fun x r h w0 φ0 Q hend => ?_
  replace h : F_ratio_Cmp d x = some r := h
  unfold F_ratio_Cmp at h
  show Run prog w0 φ0 43 (bodyOf f63) ⟨[(0, .agg [.int .i64 x.1.1, .int .i64 x.1.2.1]), (1, .agg [.int .i64 x.2.1.1, .int .i64 x.2.1.2.1])], []⟩ Q
  refine run_seq ?_
  refine run_reg hm hT hC (ratio_Cmp_g0 (ratio_Cmp_K d) (x.1.1, x.1.2.1, x.2.1.1, x.2.1.2.1)) h ?_
  intro y0 h
  refine cn_then ?_
  refine run_seq ?_
  refine run_seq ?_
  refine run_reg hm hT hC (ratio_Cmp_g1 (ratio_Cmp_K d) y0) h ?_
  intro y1 h
  refine cn_then ?_
  refine run_seq ?_
  refine run_reg hm hT hC (ratio_Cmp_g2 (ratio_Cmp_K d) y1) h ?_
  intro y2 h
  refine cn_then ?_
  refine run_cond (v := y2.2.1) (by kernel_rfl) h ?_ ?_
  ·
    intro h
    refine run_seq ?_
    refine run_reg hm hT hC (ratio_Cmp_g3 (ratio_Cmp_K d) y2) h ?_
    intro y3 h
    refine cn_then ?_
    refine run_ret ?_
    refine cn_then_ret ?_
    cases h
    exact (hend _ (by kernel_rfl)).2
  ·
    intro h
    refine run_skip ?_
    refine cn_then ?_
    refine run_seq ?_
    refine run_seq ?_
    refine run_reg hm hT hC (ratio_Cmp_g4 (ratio_Cmp_K d) y2) h ?_
    intro y4 h
    refine cn_then ?_
    refine run_cond (v := y4.1) (by kernel_rfl) h ?_ ?_
    ·
      intro h
      refine run_seq ?_
      refine run_reg hm hT hC (ratio_Cmp_g5 (ratio_Cmp_K d) y4) h ?_
      intro y5 h
      refine cn_then ?_
      refine run_ret ?_
      refine cn_then_ret ?_
      cases h
      exact (hend _ (by kernel_rfl)).2
    ·
      intro h
      refine run_skip ?_
      refine cn_then ?_
      refine run_seq ?_
      refine run_reg hm hT hC (ratio_Cmp_g6 (ratio_Cmp_K d) y4) h ?_
      intro y6 h
      refine cn_then ?_
      refine run_join (r := r) (F := ratio_Cmp_J1 d ) (S := (fun z => ⟨[(7, .int .i64 z)], []⟩ : Int → St)) ?_ ?_
      ·
        intro z h
        unfold ratio_Cmp_J1 at h
        refine run_seq ?_
        refine run_reg hm hT hC (ratio_Cmp_g9 (ratio_Cmp_K d) z) h ?_
        intro y9 h
        refine cn_then ?_
        refine run_ret ?_
        cases h
        exact (hend _ (by kernel_rfl)).2
      intro hj1
      refine run_seq ?_
      refine run_reg hm hT hC (ratio_Cmp_g7 (ratio_Cmp_K d) y6) h ?_
      intro y7 h
      refine cn_then ?_
      refine run_cond (v := y7.2) (by kernel_rfl) h ?_ ?_
      ·
        intro h
        refine run_reg hm hT hC (ratio_Cmp_g8 (ratio_Cmp_K d) y7) h ?_
        intro y8 h
        exact hj1 _ h
      ·
        intro h
        refine run_skip ?_
        refine cn_num (s := ⟨[(7, .int .i64 y7.1)], []⟩) [39] (by kernel_rfl) ?_
        exact hj1 _ h
abbrev crest_compare_ps : List Pk := [.row Rii true, .row Rii true]
abbrev crest_compare_X : Type := Dii × Dii × Unit
abbrev crest_compare_R : Type := Int
def crest_compare_enc (r : crest_compare_R) : LV × List Ob := (.int .i64 r, [])
def crest_compare_sp (F : crest_compare_X → Option crest_compare_R) : Go.Tx.Spec := ⟨46, crest_compare_ps, crest_compare_R, F, crest_compare_enc⟩
abbrev crest_compare_C : Type := (ratio_Cmp_X → Option ratio_Cmp_R) × Unit
def crest_compare_K (d : Nat) : crest_compare_C := (F_ratio_Cmp d, ())
def crest_compare_tab (C : crest_compare_C) : List Go.Tx.Spec := [ratio_Cmp_sp C.1]
abbrev crest_compare_Y0i : Type := Int × Int × Int × Int
def crest_compare_S0i (v : crest_compare_Y0i) : St := ⟨[(0, .agg [.int .i64 v.1, .int .i64 v.2.1]), (1, .agg [.int .i64 v.2.2.1, .int .i64 v.2.2.2])], []⟩
abbrev crest_compare_Y0 : Type := Int × Int × Int × Int
def crest_compare_S0 (v : crest_compare_Y0) : St := ⟨[(2, .ptr 0 0), (3, .ptr 1 0)], [.cells [.int .i64 v.1, .int .i64 v.2.1], .cells [.int .i64 v.2.2.1, .int .i64 v.2.2.2]]⟩
def crest_compare_r0 (C : crest_compare_C) (v : crest_compare_Y0i) : Dt crest_compare_Y0 := (Dt.ret (v.1, v.2.1, v.2.2.1, v.2.2.2))
theorem crest_compare_g0 (C : crest_compare_C) (v : crest_compare_Y0i) : treg tysT (orc (crest_compare_tab C)) 14 (regO (bodyOf f46) 0) false [(2, .any), (3, .any)] (crest_compare_S0i v) some = (crest_compare_r0 C v).eval fun y => some (crest_compare_S0 y) := by kernel_rfl
abbrev crest_compare_Y1 : Type := Int
def crest_compare_S1 (v : crest_compare_Y1) : St := ⟨[(5, .int .i64 v)], []⟩
def crest_compare_r1 (C : crest_compare_C) (v : crest_compare_Y0) : Dt crest_compare_Y1 := (Dt.bnd (C.1 ((v.1, v.2.1, ()), (v.2.2.1, v.2.2.2, ()), ())) fun r1 => (Dt.ret r1.1))
theorem crest_compare_g1 (C : crest_compare_C) (v : crest_compare_Y0) : treg tysT (orc (crest_compare_tab C)) 14 (regO (bodyOf f46) 1) false [(5, .any)] (crest_compare_S0 v) some = (crest_compare_r1 C v).eval fun y => some (crest_compare_S1 y) := by kernel_rfl
abbrev crest_compare_Y2 : Type := Int
def crest_compare_S2 (v : crest_compare_Y2) : St := ⟨[(4, .int .i64 v)], []⟩
def crest_compare_r2 (C : crest_compare_C) (v : crest_compare_Y1) : Dt crest_compare_Y2 := (Dt.ret v)
theorem crest_compare_g2 (C : crest_compare_C) (v : crest_compare_Y1) : treg tysT (orc (crest_compare_tab C)) 14 (regO (bodyOf f46) 2) false [(4, .any)] (crest_compare_S1 v) some = (crest_compare_r2 C v).eval fun y => some (crest_compare_S2 y) := by kernel_rfl
def F_crest_compare (d : Nat) (x : crest_compare_X) : Option crest_compare_R :=
  (crest_compare_r0 (crest_compare_K d) (x.1.1, x.1.2.1, x.2.1.1, x.2.1.2.1)).eval fun y0 =>
  (crest_compare_r1 (crest_compare_K d) y0).eval fun y1 =>
  (crest_compare_r2 (crest_compare_K d) y1).eval fun y2 =>
  some y2
theorem crest_compare_cok (d : Nat) : COK prog (crest_compare_sp (F_crest_compare d)) := by
  have hm : prog.follows .mixedOrders = true := mixed
  have hT := tys
  have hC0 : OrcOK prog (orc (crest_compare_tab (crest_compare_K d))) := orc_ok (by
    intro S hS
    simp only [crest_compare_tab, List.mem_cons, List.not_mem_nil, or_false] at hS
    subst hS; exact ratio_Cmp_cok d)
  have hC : OrcOK prog (orc (crest_compare_tab (crest_compare_K d))) := hC0
  refine cok_of (c := bodyOf f46) (fn := f46) hT (by kernel_rfl) (by kernel_rfl) (by decide) fun x r h w0 φ0 Q hend => ?_
  replace h : F_crest_compare d x = some r := h
  unfold F_crest_compare at h
  show Run prog w0 φ0 14 (bodyOf f46) ⟨[(0, .agg [.int .i64 x.1.1, .int .i64 x.1.2.1]), (1, .agg [.int .i64 x.2.1.1, .int .i64 x.2.1.2.1])], []⟩ Q
  refine run_seq ?_
  refine run_reg hm hT hC (crest_compare_g0 (crest_compare_K d) (x.1.1, x.1.2.1, x.2.1.1, x.2.1.2.1)) h ?_
  intro y0 h
  refine cn_then ?_
  refine run_seq ?_
  refine run_reg hm hT hC (crest_compare_g1 (crest_compare_K d) y0) h ?_
  intro y1 h
  refine cn_then ?_
  refine run_seq ?_
  refine run_reg hm hT hC (crest_compare_g2 (crest_compare_K d) y1) h ?_
  intro y2 h
  refine cn_then ?_
  refine run_ret ?_
  cases h
  exact (hend _ (by kernel_rfl)).2
abbrev crest_Of_ps : List Pk := [.row RLiiiE true, .row Rii true]
abbrev crest_Of_X : Type := DLiiiE × Dii × Unit
abbrev crest_Of_R : Type := List Diii × Int
def crest_Of_enc (r : crest_Of_R) : LV × List Ob := (.tup [.rs 0, .int .i64 r.2], [.rows Riii r.1])
def crest_Of_sp (F : crest_Of_X → Option crest_Of_R) : Go.Tx.Spec := ⟨7, crest_Of_ps, crest_Of_R, F, crest_Of_enc⟩
abbrev crest_Of_C : Type := (field_Order_X → Option field_Order_R) × (field_Find_X → Option field_Find_R) × (course_Fails_X → Option course_Fails_R) × (crest_compare_X → Option crest_compare_R) × (course_Ahead_X → Option course_Ahead_R) × Unit
def crest_Of_K (d : Nat) : crest_Of_C := (F_field_Order d, F_field_Find d, F_course_Fails d, F_crest_compare d, F_course_Ahead d, ())
def crest_Of_tab (C : crest_Of_C) : List Go.Tx.Spec := [field_Order_sp C.1, field_Find_sp C.2.1, course_Fails_sp C.2.2.1, crest_compare_sp C.2.2.2.1, course_Ahead_sp C.2.2.2.2.1]
abbrev crest_Of_Y0i : Type := List Diii × Int × Int
def crest_Of_S0i (v : crest_Of_Y0i) : St := ⟨[(0, .agg [.fz Riii v.1]), (1, .agg [.int .i64 v.2.1, .int .i64 v.2.2])], []⟩
abbrev crest_Of_Y0 : Type := List Diii × Int × Int
def crest_Of_S0 (v : crest_Of_Y0) : St := ⟨[(2, .ptr 0 0), (3, .ptr 1 0)], [.cells [.fz Riii v.1], .cells [.int .i64 v.2.1, .int .i64 v.2.2]]⟩
def crest_Of_r0 (C : crest_Of_C) (v : crest_Of_Y0i) : Dt crest_Of_Y0 := (Dt.ret (v.1, v.2.1, v.2.2))
theorem crest_Of_g0 (C : crest_Of_C) (v : crest_Of_Y0i) : treg tysT (orc (crest_Of_tab C)) 101 (regO (bodyOf f7) 0) false [(2, (.box [.val Riii])), (3, .any)] (crest_Of_S0i v) some = (crest_Of_r0 C v).eval fun y => some (crest_Of_S0 y) := by kernel_rfl
abbrev crest_Of_Y1 : Type := Int × List Diii × Int × Int × List Di
def crest_Of_S1 (v : crest_Of_Y1) : St := ⟨[(2, .ptr 0 0), (3, .ptr 1 0), (6, .rs 2), (7, .int .i64 v.1)], [.cells [.fz Riii v.2.1], .cells [.int .i64 v.2.2.1, .int .i64 v.2.2.2.1], .rows Ri v.2.2.2.2]⟩
def crest_Of_r1 (C : crest_Of_C) (v : crest_Of_Y0) : Dt crest_Of_Y1 := (Dt.bnd (C.1 ((v.1, ()), (v.2.1, v.2.2, ()), ())) fun r1 => (Dt.ret (r1.2, v.1, v.2.1, v.2.2, r1.1)))
theorem crest_Of_g1 (C : crest_Of_C) (v : crest_Of_Y0) : treg tysT (orc (crest_Of_tab C)) 101 (regO (bodyOf f7) 1) false [(2, (.box [.val Riii])), (3, .any), (6, (.own Ri)), (7, .any)] (crest_Of_S0 v) some = (crest_Of_r1 C v).eval fun y => some (crest_Of_S1 y) := by kernel_rfl
abbrev crest_Of_Y2 : Type := Int × Bool × List Diii × Int × Int × List Di
def crest_Of_S2 (v : crest_Of_Y2) : St := ⟨[(2, .ptr 0 0), (3, .ptr 1 0), (6, .rs 2), (7, .int .i64 v.1), (28, .bool v.2.1)], [.cells [.fz Riii v.2.2.1], .cells [.int .i64 v.2.2.2.1, .int .i64 v.2.2.2.2.1], .rows Ri v.2.2.2.2.2]⟩
def crest_Of_r2 (C : crest_Of_C) (v : crest_Of_Y1) : Dt crest_Of_Y2 := (Dt.ret (v.1, (v.1 != (0:Int)), v.2.1, v.2.2.1, v.2.2.2.1, v.2.2.2.2))
theorem crest_Of_g2 (C : crest_Of_C) (v : crest_Of_Y1) : treg tysT (orc (crest_Of_tab C)) 101 (regO (bodyOf f7) 2) false [(2, (.box [.val Riii])), (3, .any), (6, (.own Ri)), (7, .any), (28, .any)] (crest_Of_S1 v) some = (crest_Of_r2 C v).eval fun y => some (crest_Of_S2 y) := by kernel_rfl
abbrev crest_Of_Y3 : Type := Int × List Diii
def crest_Of_S3 (v : crest_Of_Y3) : St := ⟨[(4, .rs 0), (5, .int .i64 v.1)], [.rows Riii v.2]⟩
def crest_Of_r3 (C : crest_Of_C) (v : crest_Of_Y2) : Dt crest_Of_Y3 := (Dt.ret (v.1, ([] : List Diii)))
theorem crest_Of_g3 (C : crest_Of_C) (v : crest_Of_Y2) : treg tysT (orc (crest_Of_tab C)) 101 (regO (bodyOf f7) 3) false [(4, (.own Riii)), (5, .any)] (crest_Of_S2 v) some = (crest_Of_r3 C v).eval fun y => some (crest_Of_S3 y) := by kernel_rfl
abbrev crest_Of_Y4 : Type := Bool × List Diii × Int × Int × List Di
def crest_Of_S4 (v : crest_Of_Y4) : St := ⟨[(2, .ptr 0 0), (3, .ptr 1 0), (6, .rs 2), (32, .bool v.1)], [.cells [.fz Riii v.2.1], .cells [.int .i64 v.2.2.1, .int .i64 v.2.2.2.1], .rows Ri v.2.2.2.2]⟩
def crest_Of_r4 (C : crest_Of_C) (v : crest_Of_Y2) : Dt crest_Of_Y4 := (Dt.ret (((List.length v.2.2.2.2.2 : Int) == (0:Int)), v.2.2.1, v.2.2.2.1, v.2.2.2.2.1, v.2.2.2.2.2))
theorem crest_Of_g4 (C : crest_Of_C) (v : crest_Of_Y2) : treg tysT (orc (crest_Of_tab C)) 101 (regO (bodyOf f7) 4) false [(2, (.box [.val Riii])), (3, .any), (6, (.own Ri)), (32, .any)] (crest_Of_S2 v) some = (crest_Of_r4 C v).eval fun y => some (crest_Of_S4 y) := by kernel_rfl
def crest_Of_r5 (C : crest_Of_C) (v : crest_Of_Y4) : Dt crest_Of_Y3 := (Dt.ret ((42:Int), ([] : List Diii)))
theorem crest_Of_g5 (C : crest_Of_C) (v : crest_Of_Y4) : treg tysT (orc (crest_Of_tab C)) 101 (regO (bodyOf f7) 5) false [(4, (.own Riii)), (5, .any)] (crest_Of_S4 v) some = (crest_Of_r5 C v).eval fun y => some (crest_Of_S3 y) := by kernel_rfl
abbrev crest_Of_Y6 : Type := List Diii × Int × Int × Int × Int × Int
def crest_Of_S6 (v : crest_Of_Y6) : St := ⟨[(2, .ptr 0 0), (3, .ptr 1 0), (8, .ptr 2 0)], [.cells [.fz Riii v.1], .cells [.int .i64 v.2.1, .int .i64 v.2.2.1], .cells [.int .i64 v.2.2.2.1, .int .i64 v.2.2.2.2.1, .int .i64 v.2.2.2.2.2]]⟩
def crest_Of_r6 (C : crest_Of_C) (v : crest_Of_Y4) : Dt crest_Of_Y6 := (Dt.ite (inB (0:Int) (List.length v.2.2.2.2)) (Dt.bnd (C.2.1 ((v.2.1, ()), ((elt zi v.2.2.2.2 ((0:Int)).toNat).1, ()), ())) fun r1 => (Dt.ret (v.2.1, v.2.2.1, v.2.2.2.1, r1.1, r1.2.1, r1.2.2.1))) Dt.fail)
theorem crest_Of_g6 (C : crest_Of_C) (v : crest_Of_Y4) : treg tysT (orc (crest_Of_tab C)) 101 (regO (bodyOf f7) 6) true [(2, (.box [.val Riii])), (3, .any), (8, .any)] (crest_Of_S4 v) some = (crest_Of_r6 C v).eval fun y => some (crest_Of_S6 y) := by kernel_rfl
abbrev crest_Of_Y7 : Type := List Diii × Int × Int × Int × Int × Int × List Diii
def crest_Of_S7 (v : crest_Of_Y7) : St := ⟨[(2, .ptr 0 0), (3, .ptr 1 0), (8, .ptr 2 0), (10, .rs 3)], [.cells [.fz Riii v.1], .cells [.int .i64 v.2.1, .int .i64 v.2.2.1], .cells [.int .i64 v.2.2.2.1, .int .i64 v.2.2.2.2.1, .int .i64 v.2.2.2.2.2.1], .rows Riii v.2.2.2.2.2.2]⟩
def crest_Of_r7 (C : crest_Of_C) (v : crest_Of_Y6) : Dt crest_Of_Y7 := (Dt.ret (v.1, v.2.1, v.2.2.1, v.2.2.2.1, v.2.2.2.2.1, v.2.2.2.2.2, ([(v.2.1, v.2.2.1, v.2.2.2.1, ())] : List Diii)))
theorem crest_Of_g7 (C : crest_Of_C) (v : crest_Of_Y6) : treg tysT (orc (crest_Of_tab C)) 101 (regO (bodyOf f7) 7) false [(2, (.box [.val Riii])), (3, .any), (8, .any), (10, (.own Riii))] (crest_Of_S6 v) some = (crest_Of_r7 C v).eval fun y => some (crest_Of_S7 y) := by kernel_rfl
abbrev crest_Of_Y8 : Type := List Diii × Int × Int × Int × Int × Int × List Diii × Int × Int × Int
def crest_Of_S8 (v : crest_Of_Y8) : St := ⟨[(2, .ptr 0 0), (3, .ptr 1 0), (8, .ptr 2 0), (10, .rs 3), (11, .ptr 4 0)], [.cells [.fz Riii v.1], .cells [.int .i64 v.2.1, .int .i64 v.2.2.1], .cells [.int .i64 v.2.2.2.1, .int .i64 v.2.2.2.2.1, .int .i64 v.2.2.2.2.2.1], .rows Riii v.2.2.2.2.2.2.1, .cells [.int .i64 v.2.2.2.2.2.2.2.1, .int .i64 v.2.2.2.2.2.2.2.2.1, .int .i64 v.2.2.2.2.2.2.2.2.2]]⟩
def crest_Of_r8 (C : crest_Of_C) (v : crest_Of_Y7) : Dt crest_Of_Y8 := (Dt.ret (v.1, v.2.1, v.2.2.1, v.2.2.2.1, v.2.2.2.2.1, v.2.2.2.2.2.1, v.2.2.2.2.2.2, (0:Int), (0:Int), (0:Int)))
theorem crest_Of_g8 (C : crest_Of_C) (v : crest_Of_Y7) : treg tysT (orc (crest_Of_tab C)) 101 (regO (bodyOf f7) 8) false [(2, (.box [.val Riii])), (3, .any), (8, .any), (10, (.own Riii)), (11, .any)] (crest_Of_S7 v) some = (crest_Of_r8 C v).eval fun y => some (crest_Of_S8 y) := by kernel_rfl
abbrev crest_Of_Y9 : Type := List Diii × Int × Int × Int × Int × Int × List Diii × Int × Int × Int × Int × Int
def crest_Of_S9 (v : crest_Of_Y9) : St := ⟨[(2, .ptr 0 0), (3, .ptr 1 0), (8, .ptr 2 0), (10, .rs 3), (11, .ptr 4 0), (12, .ptr 5 0)], [.cells [.fz Riii v.1], .cells [.int .i64 v.2.1, .int .i64 v.2.2.1], .cells [.int .i64 v.2.2.2.1, .int .i64 v.2.2.2.2.1, .int .i64 v.2.2.2.2.2.1], .rows Riii v.2.2.2.2.2.2.1, .cells [.int .i64 v.2.2.2.2.2.2.2.1, .int .i64 v.2.2.2.2.2.2.2.2.1, .int .i64 v.2.2.2.2.2.2.2.2.2.1], .cells [.int .i64 v.2.2.2.2.2.2.2.2.2.2.1, .int .i64 v.2.2.2.2.2.2.2.2.2.2.2]]⟩
def crest_Of_r9 (C : crest_Of_C) (v : crest_Of_Y8) : Dt crest_Of_Y9 := (Dt.ret (v.1, v.2.1, v.2.2.1, v.2.2.2.1, v.2.2.2.2.1, v.2.2.2.2.2.1, v.2.2.2.2.2.2.1, v.2.2.2.2.2.2.2.1, v.2.2.2.2.2.2.2.2.1, v.2.2.2.2.2.2.2.2.2, (0:Int), (0:Int)))
theorem crest_Of_g9 (C : crest_Of_C) (v : crest_Of_Y8) : treg tysT (orc (crest_Of_tab C)) 101 (regO (bodyOf f7) 9) false [(2, (.box [.val Riii])), (3, .any), (8, .any), (10, (.own Riii)), (11, .any), (12, .any)] (crest_Of_S8 v) some = (crest_Of_r9 C v).eval fun y => some (crest_Of_S9 y) := by kernel_rfl
abbrev crest_Of_Y10 : Type := List Diii × Int × Int × List Diii × Int × Int × Int × Int × Int × List Diii × Int × Int × Int × Int × Int
def crest_Of_S10 (v : crest_Of_Y10) : St := ⟨[(2, .ptr 0 0), (3, .ptr 1 0), (8, .ptr 2 0), (10, .rs 3), (11, .ptr 4 0), (12, .ptr 5 0), (47, .fz Riii v.1), (48, .int .i64 v.2.1), (49, .int .i64 v.2.2.1)], [.cells [.fz Riii v.2.2.2.1], .cells [.int .i64 v.2.2.2.2.1, .int .i64 v.2.2.2.2.2.1], .cells [.int .i64 v.2.2.2.2.2.2.1, .int .i64 v.2.2.2.2.2.2.2.1, .int .i64 v.2.2.2.2.2.2.2.2.1], .rows Riii v.2.2.2.2.2.2.2.2.2.1, .cells [.int .i64 v.2.2.2.2.2.2.2.2.2.2.1, .int .i64 v.2.2.2.2.2.2.2.2.2.2.2.1, .int .i64 v.2.2.2.2.2.2.2.2.2.2.2.2.1], .cells [.int .i64 v.2.2.2.2.2.2.2.2.2.2.2.2.2.1, .int .i64 v.2.2.2.2.2.2.2.2.2.2.2.2.2.2]]⟩
def crest_Of_r10 (C : crest_Of_C) (v : crest_Of_Y9) : Dt crest_Of_Y10 := (Dt.ret (v.1, (List.length v.1 : Int), (0:Int), v.1, v.2.1, v.2.2.1, v.2.2.2.1, v.2.2.2.2.1, v.2.2.2.2.2.1, v.2.2.2.2.2.2.1, v.2.2.2.2.2.2.2.1, v.2.2.2.2.2.2.2.2.1, v.2.2.2.2.2.2.2.2.2.1, v.2.2.2.2.2.2.2.2.2.2.1, v.2.2.2.2.2.2.2.2.2.2.2))
theorem crest_Of_g10 (C : crest_Of_C) (v : crest_Of_Y9) : treg tysT (orc (crest_Of_tab C)) 101 (regO (bodyOf f7) 10) false [(2, (.box [.val Riii])), (3, .any), (8, .any), (10, (.own Riii)), (11, .any), (12, .any), (47, (.val Riii)), (48, .any), (49, .any)] (crest_Of_S9 v) some = (crest_Of_r10 C v).eval fun y => some (crest_Of_S10 y) := by kernel_rfl
abbrev crest_Of_Y11 : Type := List Diii × Int × Int × Bool × List Diii × Int × Int × Int × Int × Int × List Diii × Int × Int × Int × Int × Int
def crest_Of_S11 (v : crest_Of_Y11) : St := ⟨[(2, .ptr 0 0), (3, .ptr 1 0), (8, .ptr 2 0), (10, .rs 3), (11, .ptr 4 0), (12, .ptr 5 0), (47, .fz Riii v.1), (48, .int .i64 v.2.1), (49, .int .i64 v.2.2.1), (50, .bool v.2.2.2.1)], [.cells [.fz Riii v.2.2.2.2.1], .cells [.int .i64 v.2.2.2.2.2.1, .int .i64 v.2.2.2.2.2.2.1], .cells [.int .i64 v.2.2.2.2.2.2.2.1, .int .i64 v.2.2.2.2.2.2.2.2.1, .int .i64 v.2.2.2.2.2.2.2.2.2.1], .rows Riii v.2.2.2.2.2.2.2.2.2.2.1, .cells [.int .i64 v.2.2.2.2.2.2.2.2.2.2.2.1, .int .i64 v.2.2.2.2.2.2.2.2.2.2.2.2.1, .int .i64 v.2.2.2.2.2.2.2.2.2.2.2.2.2.1], .cells [.int .i64 v.2.2.2.2.2.2.2.2.2.2.2.2.2.2.1, .int .i64 v.2.2.2.2.2.2.2.2.2.2.2.2.2.2.2]]⟩
def crest_Of_r11 (C : crest_Of_C) (v : crest_Of_Y10) : Dt crest_Of_Y11 := (Dt.ret (v.1, v.2.1, v.2.2.1, (decide (v.2.2.1 < v.2.1)), v.2.2.2.1, v.2.2.2.2.1, v.2.2.2.2.2.1, v.2.2.2.2.2.2.1, v.2.2.2.2.2.2.2.1, v.2.2.2.2.2.2.2.2.1, v.2.2.2.2.2.2.2.2.2.1, v.2.2.2.2.2.2.2.2.2.2.1, v.2.2.2.2.2.2.2.2.2.2.2.1, v.2.2.2.2.2.2.2.2.2.2.2.2.1, v.2.2.2.2.2.2.2.2.2.2.2.2.2.1, v.2.2.2.2.2.2.2.2.2.2.2.2.2.2))
theorem crest_Of_g11 (C : crest_Of_C) (v : crest_Of_Y10) : treg tysT (orc (crest_Of_tab C)) 101 (regO (bodyOf f7) 11) false [(2, (.box [.val Riii])), (3, .any), (8, .any), (10, (.own Riii)), (11, .any), (12, .any), (47, (.val Riii)), (48, .any), (49, .any), (50, .any)] (crest_Of_S10 v) some = (crest_Of_r11 C v).eval fun y => some (crest_Of_S11 y) := by kernel_rfl
abbrev crest_Of_Y12 : Type := List Diii × Int × Int × List Diii × Int × Int × Int × Int × Int × List Diii × Int × Int × Int × Int × Int × Int × Int × Int
def crest_Of_S12 (v : crest_Of_Y12) : St := ⟨[(2, .ptr 0 0), (3, .ptr 1 0), (8, .ptr 2 0), (10, .rs 3), (11, .ptr 4 0), (12, .ptr 5 0), (14, .ptr 6 0), (47, .fz Riii v.1), (48, .int .i64 v.2.1), (49, .int .i64 v.2.2.1)], [.cells [.fz Riii v.2.2.2.1], .cells [.int .i64 v.2.2.2.2.1, .int .i64 v.2.2.2.2.2.1], .cells [.int .i64 v.2.2.2.2.2.2.1, .int .i64 v.2.2.2.2.2.2.2.1, .int .i64 v.2.2.2.2.2.2.2.2.1], .rows Riii v.2.2.2.2.2.2.2.2.2.1, .cells [.int .i64 v.2.2.2.2.2.2.2.2.2.2.1, .int .i64 v.2.2.2.2.2.2.2.2.2.2.2.1, .int .i64 v.2.2.2.2.2.2.2.2.2.2.2.2.1], .cells [.int .i64 v.2.2.2.2.2.2.2.2.2.2.2.2.2.1, .int .i64 v.2.2.2.2.2.2.2.2.2.2.2.2.2.2.1], .cells [.int .i64 v.2.2.2.2.2.2.2.2.2.2.2.2.2.2.2.1, .int .i64 v.2.2.2.2.2.2.2.2.2.2.2.2.2.2.2.2.1, .int .i64 v.2.2.2.2.2.2.2.2.2.2.2.2.2.2.2.2.2]]⟩
def crest_Of_r12 (C : crest_Of_C) (v : crest_Of_Y11) : Dt crest_Of_Y12 := (Dt.ite (inB v.2.2.1 (List.length v.1)) (Dt.ret (v.1, v.2.1, v.2.2.1, v.2.2.2.2.1, v.2.2.2.2.2.1, v.2.2.2.2.2.2.1, v.2.2.2.2.2.2.2.1, v.2.2.2.2.2.2.2.2.1, v.2.2.2.2.2.2.2.2.2.1, v.2.2.2.2.2.2.2.2.2.2.1, v.2.2.2.2.2.2.2.2.2.2.2.1, v.2.2.2.2.2.2.2.2.2.2.2.2.1, v.2.2.2.2.2.2.2.2.2.2.2.2.2.1, v.2.2.2.2.2.2.2.2.2.2.2.2.2.2.1, v.2.2.2.2.2.2.2.2.2.2.2.2.2.2.2, (elt ziii v.1 (v.2.2.1).toNat).1, (elt ziii v.1 (v.2.2.1).toNat).2.1, (elt ziii v.1 (v.2.2.1).toNat).2.2.1)) Dt.fail)
theorem crest_Of_g12 (C : crest_Of_C) (v : crest_Of_Y11) : treg tysT (orc (crest_Of_tab C)) 101 (regO (bodyOf f7) 12) false [(2, (.box [.val Riii])), (3, .any), (8, .any), (10, (.own Riii)), (11, .any), (12, .any), (14, .any), (47, (.val Riii)), (48, .any), (49, .any)] (crest_Of_S11 v) some = (crest_Of_r12 C v).eval fun y => some (crest_Of_S12 y) := by kernel_rfl
abbrev crest_Of_Y13 : Type := Bool × Int × List Diii × Int × Int × List Diii × Int × Int × Int × Int × Int × List Diii × Int × Int × Int × Int × Int × Int × Int × Int × Int × Int
def crest_Of_S13 (v : crest_Of_Y13) : St := ⟨[(2, .ptr 0 0), (3, .ptr 1 0), (8, .ptr 2 0), (10, .rs 3), (11, .ptr 4 0), (12, .ptr 5 0), (14, .ptr 6 0), (15, .ptr 7 0), (16, .bool v.1), (17, .int .i64 v.2.1), (47, .fz Riii v.2.2.1), (48, .int .i64 v.2.2.2.1), (49, .int .i64 v.2.2.2.2.1)], [.cells [.fz Riii v.2.2.2.2.2.1], .cells [.int .i64 v.2.2.2.2.2.2.1, .int .i64 v.2.2.2.2.2.2.2.1], .cells [.int .i64 v.2.2.2.2.2.2.2.2.1, .int .i64 v.2.2.2.2.2.2.2.2.2.1, .int .i64 v.2.2.2.2.2.2.2.2.2.2.1], .rows Riii v.2.2.2.2.2.2.2.2.2.2.2.1, .cells [.int .i64 v.2.2.2.2.2.2.2.2.2.2.2.2.1, .int .i64 v.2.2.2.2.2.2.2.2.2.2.2.2.2.1, .int .i64 v.2.2.2.2.2.2.2.2.2.2.2.2.2.2.1], .cells [.int .i64 v.2.2.2.2.2.2.2.2.2.2.2.2.2.2.2.1, .int .i64 v.2.2.2.2.2.2.2.2.2.2.2.2.2.2.2.2.1], .cells [.int .i64 v.2.2.2.2.2.2.2.2.2.2.2.2.2.2.2.2.2.1, .int .i64 v.2.2.2.2.2.2.2.2.2.2.2.2.2.2.2.2.2.2.1, .int .i64 v.2.2.2.2.2.2.2.2.2.2.2.2.2.2.2.2.2.2.2.1], .cells [.int .i64 v.2.2.2.2.2.2.2.2.2.2.2.2.2.2.2.2.2.2.2.2.1, .int .i64 v.2.2.2.2.2.2.2.2.2.2.2.2.2.2.2.2.2.2.2.2.2]]⟩
def crest_Of_r13 (C : crest_Of_C) (v : crest_Of_Y12) : Dt crest_Of_Y13 := (Dt.bnd (C.2.2.1 ((v.2.2.2.2.2.2.1, v.2.2.2.2.2.2.2.1, v.2.2.2.2.2.2.2.2.1, ()), (v.2.2.2.2.2.2.2.2.2.2.2.2.2.2.2.1, v.2.2.2.2.2.2.2.2.2.2.2.2.2.2.2.2.1, v.2.2.2.2.2.2.2.2.2.2.2.2.2.2.2.2.2, ()), (v.2.2.2.2.1, v.2.2.2.2.2.1, ()), ())) fun r1 => (Dt.ret (r1.2.2.1, r1.2.2.2, v.1, v.2.1, v.2.2.1, v.2.2.2.1, v.2.2.2.2.1, v.2.2.2.2.2.1, v.2.2.2.2.2.2.1, v.2.2.2.2.2.2.2.1, v.2.2.2.2.2.2.2.2.1, v.2.2.2.2.2.2.2.2.2.1, v.2.2.2.2.2.2.2.2.2.2.1, v.2.2.2.2.2.2.2.2.2.2.2.1, v.2.2.2.2.2.2.2.2.2.2.2.2.1, v.2.2.2.2.2.2.2.2.2.2.2.2.2.1, v.2.2.2.2.2.2.2.2.2.2.2.2.2.2.1, v.2.2.2.2.2.2.2.2.2.2.2.2.2.2.2.1, v.2.2.2.2.2.2.2.2.2.2.2.2.2.2.2.2.1, v.2.2.2.2.2.2.2.2.2.2.2.2.2.2.2.2.2, r1.1, r1.2.1)))
theorem crest_Of_g13 (C : crest_Of_C) (v : crest_Of_Y12) : treg tysT (orc (crest_Of_tab C)) 101 (regO (bodyOf f7) 13) false [(2, (.box [.val Riii])), (3, .any), (8, .any), (10, (.own Riii)), (11, .any), (12, .any), (14, .any), (15, .any), (16, .any), (17, .any), (47, (.val Riii)), (48, .any), (49, .any)] (crest_Of_S12 v) some = (crest_Of_r13 C v).eval fun y => some (crest_Of_S13 y) := by kernel_rfl
abbrev crest_Of_Y14 : Type := List Diii × Int × Int × Bool × List Diii × Int × Int × Int × Int × Int × List Diii × Int × Int × Int × Int × Int × Int × Int × Int × Int × Int
def crest_Of_S14 (v : crest_Of_Y14) : St := ⟨[(2, .ptr 0 0), (3, .ptr 1 0), (8, .ptr 2 0), (10, .rs 3), (11, .ptr 4 0), (12, .ptr 5 0), (14, .ptr 6 0), (15, .ptr 7 0), (47, .fz Riii v.1), (48, .int .i64 v.2.1), (49, .int .i64 v.2.2.1), (66, .bool v.2.2.2.1)], [.cells [.fz Riii v.2.2.2.2.1], .cells [.int .i64 v.2.2.2.2.2.1, .int .i64 v.2.2.2.2.2.2.1], .cells [.int .i64 v.2.2.2.2.2.2.2.1, .int .i64 v.2.2.2.2.2.2.2.2.1, .int .i64 v.2.2.2.2.2.2.2.2.2.1], .rows Riii v.2.2.2.2.2.2.2.2.2.2.1, .cells [.int .i64 v.2.2.2.2.2.2.2.2.2.2.2.1, .int .i64 v.2.2.2.2.2.2.2.2.2.2.2.2.1, .int .i64 v.2.2.2.2.2.2.2.2.2.2.2.2.2.1], .cells [.int .i64 v.2.2.2.2.2.2.2.2.2.2.2.2.2.2.1, .int .i64 v.2.2.2.2.2.2.2.2.2.2.2.2.2.2.2.1], .cells [.int .i64 v.2.2.2.2.2.2.2.2.2.2.2.2.2.2.2.2.1, .int .i64 v.2.2.2.2.2.2.2.2.2.2.2.2.2.2.2.2.2.1, .int .i64 v.2.2.2.2.2.2.2.2.2.2.2.2.2.2.2.2.2.2.1], .cells [.int .i64 v.2.2.2.2.2.2.2.2.2.2.2.2.2.2.2.2.2.2.2.1, .int .i64 v.2.2.2.2.2.2.2.2.2.2.2.2.2.2.2.2.2.2.2.2]]⟩
def crest_Of_r14 (C : crest_Of_C) (v : crest_Of_Y13) : Dt crest_Of_Y14 := (Dt.ite (v.2.1 != (0:Int)) (Dt.ret (v.2.2.1, v.2.2.2.1, v.2.2.2.2.1, true, v.2.2.2.2.2.1, v.2.2.2.2.2.2.1, v.2.2.2.2.2.2.2.1, v.2.2.2.2.2.2.2.2.1, v.2.2.2.2.2.2.2.2.2.1, v.2.2.2.2.2.2.2.2.2.2.1, v.2.2.2.2.2.2.2.2.2.2.2.1, v.2.2.2.2.2.2.2.2.2.2.2.2.1, v.2.2.2.2.2.2.2.2.2.2.2.2.2.1, v.2.2.2.2.2.2.2.2.2.2.2.2.2.2.1, v.2.2.2.2.2.2.2.2.2.2.2.2.2.2.2.1, v.2.2.2.2.2.2.2.2.2.2.2.2.2.2.2.2.1, v.2.2.2.2.2.2.2.2.2.2.2.2.2.2.2.2.2.1, v.2.2.2.2.2.2.2.2.2.2.2.2.2.2.2.2.2.2.1, v.2.2.2.2.2.2.2.2.2.2.2.2.2.2.2.2.2.2.2.1, v.2.2.2.2.2.2.2.2.2.2.2.2.2.2.2.2.2.2.2.2.1, v.2.2.2.2.2.2.2.2.2.2.2.2.2.2.2.2.2.2.2.2.2)) (Dt.ret (v.2.2.1, v.2.2.2.1, v.2.2.2.2.1, (!v.1), v.2.2.2.2.2.1, v.2.2.2.2.2.2.1, v.2.2.2.2.2.2.2.1, v.2.2.2.2.2.2.2.2.1, v.2.2.2.2.2.2.2.2.2.1, v.2.2.2.2.2.2.2.2.2.2.1, v.2.2.2.2.2.2.2.2.2.2.2.1, v.2.2.2.2.2.2.2.2.2.2.2.2.1, v.2.2.2.2.2.2.2.2.2.2.2.2.2.1, v.2.2.2.2.2.2.2.2.2.2.2.2.2.2.1, v.2.2.2.2.2.2.2.2.2.2.2.2.2.2.2.1, v.2.2.2.2.2.2.2.2.2.2.2.2.2.2.2.2.1, v.2.2.2.2.2.2.2.2.2.2.2.2.2.2.2.2.2.1, v.2.2.2.2.2.2.2.2.2.2.2.2.2.2.2.2.2.2.1, v.2.2.2.2.2.2.2.2.2.2.2.2.2.2.2.2.2.2.2.1, v.2.2.2.2.2.2.2.2.2.2.2.2.2.2.2.2.2.2.2.2.1, v.2.2.2.2.2.2.2.2.2.2.2.2.2.2.2.2.2.2.2.2.2)))
theorem crest_Of_g14 (C : crest_Of_C) (v : crest_Of_Y13) : treg tysT (orc (crest_Of_tab C)) 101 (regO (bodyOf f7) 14) false [(2, (.box [.val Riii])), (3, .any), (8, .any), (10, (.own Riii)), (11, .any), (12, .any), (14, .any), (15, .any), (47, (.val Riii)), (48, .any), (49, .any), (66, .any)] (crest_Of_S13 v) some = (crest_Of_r14 C v).eval fun y => some (crest_Of_S14 y) := by kernel_rfl
def crest_Of_r24 (C : crest_Of_C) (v : crest_Of_Y10) : Dt crest_Of_Y10 := (Dt.ret (v.1, v.2.1, (IntKind.wrap .i64 (v.2.2.1 + (1:Int))), v.2.2.2.1, v.2.2.2.2.1, v.2.2.2.2.2.1, v.2.2.2.2.2.2.1, v.2.2.2.2.2.2.2.1, v.2.2.2.2.2.2.2.2.1, v.2.2.2.2.2.2.2.2.2.1, v.2.2.2.2.2.2.2.2.2.2.1, v.2.2.2.2.2.2.2.2.2.2.2.1, v.2.2.2.2.2.2.2.2.2.2.2.2.1, v.2.2.2.2.2.2.2.2.2.2.2.2.2.1, v.2.2.2.2.2.2.2.2.2.2.2.2.2.2))
theorem crest_Of_g24 (C : crest_Of_C) (v : crest_Of_Y10) : treg tysT (orc (crest_Of_tab C)) 101 (regO (bodyOf f7) 24) false [(2, (.box [.val Riii])), (3, .any), (8, .any), (10, (.own Riii)), (11, .any), (12, .any), (47, (.val Riii)), (48, .any), (49, .any)] (crest_Of_S10 v) some = (crest_Of_r24 C v).eval fun y => some (crest_Of_S10 y) := by kernel_rfl
def crest_Of_J3  (d : Nat) (self1 : (List Diii × Int × Int × Int × Int × Int × List Diii) → Option crest_Of_R) (self2 : (List Diii × Int × Int × List Diii × Int × Int × Int × Int × Int × List Diii × Int × Int × Int × Int × Int) → Option crest_Of_R) (z : List Diii × Int × Int × List Diii × Int × Int × Int × Int × Int × List Diii × Int × Int × Int × Int × Int) : Option (crest_Of_R) :=
  (crest_Of_r24 (crest_Of_K d) z).eval fun y24 =>
  self2 y24
abbrev crest_Of_Y15 : Type := Int × List Diii × Int × Int × List Diii × Int × Int × Int × Int × Int × List Diii × Int × Int × Int × Int × Int × Int × Int × Int × Int × Int
def crest_Of_S15 (v : crest_Of_Y15) : St := ⟨[(2, .ptr 0 0), (3, .ptr 1 0), (8, .ptr 2 0), (10, .rs 3), (11, .ptr 4 0), (12, .ptr 5 0), (14, .ptr 6 0), (15, .ptr 7 0), (18, .int .i64 v.1), (47, .fz Riii v.2.1), (48, .int .i64 v.2.2.1), (49, .int .i64 v.2.2.2.1)], [.cells [.fz Riii v.2.2.2.2.1], .cells [.int .i64 v.2.2.2.2.2.1, .int .i64 v.2.2.2.2.2.2.1], .cells [.int .i64 v.2.2.2.2.2.2.2.1, .int .i64 v.2.2.2.2.2.2.2.2.1, .int .i64 v.2.2.2.2.2.2.2.2.2.1], .rows Riii v.2.2.2.2.2.2.2.2.2.2.1, .cells [.int .i64 v.2.2.2.2.2.2.2.2.2.2.2.1, .int .i64 v.2.2.2.2.2.2.2.2.2.2.2.2.1, .int .i64 v.2.2.2.2.2.2.2.2.2.2.2.2.2.1], .cells [.int .i64 v.2.2.2.2.2.2.2.2.2.2.2.2.2.2.1, .int .i64 v.2.2.2.2.2.2.2.2.2.2.2.2.2.2.2.1], .cells [.int .i64 v.2.2.2.2.2.2.2.2.2.2.2.2.2.2.2.2.1, .int .i64 v.2.2.2.2.2.2.2.2.2.2.2.2.2.2.2.2.2.1, .int .i64 v.2.2.2.2.2.2.2.2.2.2.2.2.2.2.2.2.2.2.1], .cells [.int .i64 v.2.2.2.2.2.2.2.2.2.2.2.2.2.2.2.2.2.2.2.1, .int .i64 v.2.2.2.2.2.2.2.2.2.2.2.2.2.2.2.2.2.2.2.2]]⟩
def crest_Of_r15 (C : crest_Of_C) (v : crest_Of_Y14) : Dt crest_Of_Y15 := (Dt.ret ((-1:Int), v.1, v.2.1, v.2.2.1, v.2.2.2.2.1, v.2.2.2.2.2.1, v.2.2.2.2.2.2.1, v.2.2.2.2.2.2.2.1, v.2.2.2.2.2.2.2.2.1, v.2.2.2.2.2.2.2.2.2.1, v.2.2.2.2.2.2.2.2.2.2.1, v.2.2.2.2.2.2.2.2.2.2.2.1, v.2.2.2.2.2.2.2.2.2.2.2.2.1, v.2.2.2.2.2.2.2.2.2.2.2.2.2.1, v.2.2.2.2.2.2.2.2.2.2.2.2.2.2.1, v.2.2.2.2.2.2.2.2.2.2.2.2.2.2.2.1, v.2.2.2.2.2.2.2.2.2.2.2.2.2.2.2.2.1, v.2.2.2.2.2.2.2.2.2.2.2.2.2.2.2.2.2.1, v.2.2.2.2.2.2.2.2.2.2.2.2.2.2.2.2.2.2.1, v.2.2.2.2.2.2.2.2.2.2.2.2.2.2.2.2.2.2.2.1, v.2.2.2.2.2.2.2.2.2.2.2.2.2.2.2.2.2.2.2.2))
theorem crest_Of_g15 (C : crest_Of_C) (v : crest_Of_Y14) : treg tysT (orc (crest_Of_tab C)) 101 (regO (bodyOf f7) 15) false [(2, (.box [.val Riii])), (3, .any), (8, .any), (10, (.own Riii)), (11, .any), (12, .any), (14, .any), (15, .any), (18, .any), (47, (.val Riii)), (48, .any), (49, .any)] (crest_Of_S14 v) some = (crest_Of_r15 C v).eval fun y => some (crest_Of_S15 y) := by kernel_rfl
abbrev crest_Of_Y16 : Type := Int × List Diii × Int × Int × Bool × List Diii × Int × Int × Int × Int × Int × List Diii × Int × Int × Int × Int × Int × Int × Int × Int × Int × Int
def crest_Of_S16 (v : crest_Of_Y16) : St := ⟨[(2, .ptr 0 0), (3, .ptr 1 0), (8, .ptr 2 0), (10, .rs 3), (11, .ptr 4 0), (12, .ptr 5 0), (14, .ptr 6 0), (15, .ptr 7 0), (18, .int .i64 v.1), (47, .fz Riii v.2.1), (48, .int .i64 v.2.2.1), (49, .int .i64 v.2.2.2.1), (69, .bool v.2.2.2.2.1)], [.cells [.fz Riii v.2.2.2.2.2.1], .cells [.int .i64 v.2.2.2.2.2.2.1, .int .i64 v.2.2.2.2.2.2.2.1], .cells [.int .i64 v.2.2.2.2.2.2.2.2.1, .int .i64 v.2.2.2.2.2.2.2.2.2.1, .int .i64 v.2.2.2.2.2.2.2.2.2.2.1], .rows Riii v.2.2.2.2.2.2.2.2.2.2.2.1, .cells [.int .i64 v.2.2.2.2.2.2.2.2.2.2.2.2.1, .int .i64 v.2.2.2.2.2.2.2.2.2.2.2.2.2.1, .int .i64 v.2.2.2.2.2.2.2.2.2.2.2.2.2.2.1], .cells [.int .i64 v.2.2.2.2.2.2.2.2.2.2.2.2.2.2.2.1, .int .i64 v.2.2.2.2.2.2.2.2.2.2.2.2.2.2.2.2.1], .cells [.int .i64 v.2.2.2.2.2.2.2.2.2.2.2.2.2.2.2.2.2.1, .int .i64 v.2.2.2.2.2.2.2.2.2.2.2.2.2.2.2.2.2.2.1, .int .i64 v.2.2.2.2.2.2.2.2.2.2.2.2.2.2.2.2.2.2.2.1], .cells [.int .i64 v.2.2.2.2.2.2.2.2.2.2.2.2.2.2.2.2.2.2.2.2.1, .int .i64 v.2.2.2.2.2.2.2.2.2.2.2.2.2.2.2.2.2.2.2.2.2]]⟩
def crest_Of_r16 (C : crest_Of_C) (v : crest_Of_Y15) : Dt crest_Of_Y16 := (Dt.ret (v.1, v.2.1, v.2.2.1, v.2.2.2.1, (decide (v.2.2.2.2.2.2.2.2.2.2.2.2.2.2.2.1 > (0:Int))), v.2.2.2.2.1, v.2.2.2.2.2.1, v.2.2.2.2.2.2.1, v.2.2.2.2.2.2.2.1, v.2.2.2.2.2.2.2.2.1, v.2.2.2.2.2.2.2.2.2.1, v.2.2.2.2.2.2.2.2.2.2.1, v.2.2.2.2.2.2.2.2.2.2.2.1, v.2.2.2.2.2.2.2.2.2.2.2.2.1, v.2.2.2.2.2.2.2.2.2.2.2.2.2.1, v.2.2.2.2.2.2.2.2.2.2.2.2.2.2.1, v.2.2.2.2.2.2.2.2.2.2.2.2.2.2.2.1, v.2.2.2.2.2.2.2.2.2.2.2.2.2.2.2.2.1, v.2.2.2.2.2.2.2.2.2.2.2.2.2.2.2.2.2.1, v.2.2.2.2.2.2.2.2.2.2.2.2.2.2.2.2.2.2.1, v.2.2.2.2.2.2.2.2.2.2.2.2.2.2.2.2.2.2.2.1, v.2.2.2.2.2.2.2.2.2.2.2.2.2.2.2.2.2.2.2.2))
theorem crest_Of_g16 (C : crest_Of_C) (v : crest_Of_Y15) : treg tysT (orc (crest_Of_tab C)) 101 (regO (bodyOf f7) 16) false [(2, (.box [.val Riii])), (3, .any), (8, .any), (10, (.own Riii)), (11, .any), (12, .any), (14, .any), (15, .any), (18, .any), (47, (.val Riii)), (48, .any), (49, .any), (69, .any)] (crest_Of_S15 v) some = (crest_Of_r16 C v).eval fun y => some (crest_Of_S16 y) := by kernel_rfl
def crest_Of_r17 (C : crest_Of_C) (v : crest_Of_Y16) : Dt crest_Of_Y15 := (Dt.bnd (C.2.2.2.1 ((v.2.2.2.2.2.2.2.2.2.2.2.2.2.2.2.2.2.2.2.2.1, v.2.2.2.2.2.2.2.2.2.2.2.2.2.2.2.2.2.2.2.2.2, ()), (v.2.2.2.2.2.2.2.2.2.2.2.2.2.2.2.1, v.2.2.2.2.2.2.2.2.2.2.2.2.2.2.2.2.1, ()), ())) fun r1 => (Dt.ret (r1, v.2.1, v.2.2.1, v.2.2.2.1, v.2.2.2.2.2.1, v.2.2.2.2.2.2.1, v.2.2.2.2.2.2.2.1, v.2.2.2.2.2.2.2.2.1, v.2.2.2.2.2.2.2.2.2.1, v.2.2.2.2.2.2.2.2.2.2.1, v.2.2.2.2.2.2.2.2.2.2.2.1, v.2.2.2.2.2.2.2.2.2.2.2.2.1, v.2.2.2.2.2.2.2.2.2.2.2.2.2.1, v.2.2.2.2.2.2.2.2.2.2.2.2.2.2.1, v.2.2.2.2.2.2.2.2.2.2.2.2.2.2.2.1, v.2.2.2.2.2.2.2.2.2.2.2.2.2.2.2.2.1, v.2.2.2.2.2.2.2.2.2.2.2.2.2.2.2.2.2.1, v.2.2.2.2.2.2.2.2.2.2.2.2.2.2.2.2.2.2.1, v.2.2.2.2.2.2.2.2.2.2.2.2.2.2.2.2.2.2.2.1, v.2.2.2.2.2.2.2.2.2.2.2.2.2.2.2.2.2.2.2.2.1, v.2.2.2.2.2.2.2.2.2.2.2.2.2.2.2.2.2.2.2.2.2)))
theorem crest_Of_g17 (C : crest_Of_C) (v : crest_Of_Y16) : treg tysT (orc (crest_Of_tab C)) 101 (regO (bodyOf f7) 17) false [(2, (.box [.val Riii])), (3, .any), (8, .any), (10, (.own Riii)), (11, .any), (12, .any), (14, .any), (15, .any), (18, .any), (47, (.val Riii)), (48, .any), (49, .any)] (crest_Of_S16 v) some = (crest_Of_r17 C v).eval fun y => some (crest_Of_S15 y) := by kernel_rfl
abbrev crest_Of_Y18 : Type := Int × List Diii × Int × Int × Bool × List Diii × Int × Int × Int × Int × Int × List Diii × Int × Int × Int × Int × Int × Int × Int × Int × Int × Int
def crest_Of_S18 (v : crest_Of_Y18) : St := ⟨[(2, .ptr 0 0), (3, .ptr 1 0), (8, .ptr 2 0), (10, .rs 3), (11, .ptr 4 0), (12, .ptr 5 0), (14, .ptr 6 0), (15, .ptr 7 0), (18, .int .i64 v.1), (47, .fz Riii v.2.1), (48, .int .i64 v.2.2.1), (49, .int .i64 v.2.2.2.1), (74, .bool v.2.2.2.2.1)], [.cells [.fz Riii v.2.2.2.2.2.1], .cells [.int .i64 v.2.2.2.2.2.2.1, .int .i64 v.2.2.2.2.2.2.2.1], .cells [.int .i64 v.2.2.2.2.2.2.2.2.1, .int .i64 v.2.2.2.2.2.2.2.2.2.1, .int .i64 v.2.2.2.2.2.2.2.2.2.2.1], .rows Riii v.2.2.2.2.2.2.2.2.2.2.2.1, .cells [.int .i64 v.2.2.2.2.2.2.2.2.2.2.2.2.1, .int .i64 v.2.2.2.2.2.2.2.2.2.2.2.2.2.1, .int .i64 v.2.2.2.2.2.2.2.2.2.2.2.2.2.2.1], .cells [.int .i64 v.2.2.2.2.2.2.2.2.2.2.2.2.2.2.2.1, .int .i64 v.2.2.2.2.2.2.2.2.2.2.2.2.2.2.2.2.1], .cells [.int .i64 v.2.2.2.2.2.2.2.2.2.2.2.2.2.2.2.2.2.1, .int .i64 v.2.2.2.2.2.2.2.2.2.2.2.2.2.2.2.2.2.2.1, .int .i64 v.2.2.2.2.2.2.2.2.2.2.2.2.2.2.2.2.2.2.2.1], .cells [.int .i64 v.2.2.2.2.2.2.2.2.2.2.2.2.2.2.2.2.2.2.2.2.1, .int .i64 v.2.2.2.2.2.2.2.2.2.2.2.2.2.2.2.2.2.2.2.2.2]]⟩
def crest_Of_r18 (C : crest_Of_C) (v : crest_Of_Y15) : Dt crest_Of_Y18 := (Dt.ret (v.1, v.2.1, v.2.2.1, v.2.2.2.1, (v.1 == (0:Int)), v.2.2.2.2.1, v.2.2.2.2.2.1, v.2.2.2.2.2.2.1, v.2.2.2.2.2.2.2.1, v.2.2.2.2.2.2.2.2.1, v.2.2.2.2.2.2.2.2.2.1, v.2.2.2.2.2.2.2.2.2.2.1, v.2.2.2.2.2.2.2.2.2.2.2.1, v.2.2.2.2.2.2.2.2.2.2.2.2.1, v.2.2.2.2.2.2.2.2.2.2.2.2.2.1, v.2.2.2.2.2.2.2.2.2.2.2.2.2.2.1, v.2.2.2.2.2.2.2.2.2.2.2.2.2.2.2.1, v.2.2.2.2.2.2.2.2.2.2.2.2.2.2.2.2.1, v.2.2.2.2.2.2.2.2.2.2.2.2.2.2.2.2.2.1, v.2.2.2.2.2.2.2.2.2.2.2.2.2.2.2.2.2.2.1, v.2.2.2.2.2.2.2.2.2.2.2.2.2.2.2.2.2.2.2.1, v.2.2.2.2.2.2.2.2.2.2.2.2.2.2.2.2.2.2.2.2))
theorem crest_Of_g18 (C : crest_Of_C) (v : crest_Of_Y15) : treg tysT (orc (crest_Of_tab C)) 101 (regO (bodyOf f7) 18) false [(2, (.box [.val Riii])), (3, .any), (8, .any), (10, (.own Riii)), (11, .any), (12, .any), (14, .any), (15, .any), (18, .any), (47, (.val Riii)), (48, .any), (49, .any), (74, .any)] (crest_Of_S15 v) some = (crest_Of_r18 C v).eval fun y => some (crest_Of_S18 y) := by kernel_rfl
abbrev crest_Of_Y19 : Type := Int × Bool × List Diii × Int × Int × List Diii × Int × Int × Int × Int × Int × List Diii × Int × Int × Int × Int × Int × Int × Int × Int × Int × Int
def crest_Of_S19 (v : crest_Of_Y19) : St := ⟨[(2, .ptr 0 0), (3, .ptr 1 0), (8, .ptr 2 0), (10, .rs 3), (11, .ptr 4 0), (12, .ptr 5 0), (14, .ptr 6 0), (15, .ptr 7 0), (18, .int .i64 v.1), (19, .bool v.2.1), (47, .fz Riii v.2.2.1), (48, .int .i64 v.2.2.2.1), (49, .int .i64 v.2.2.2.2.1)], [.cells [.fz Riii v.2.2.2.2.2.1], .cells [.int .i64 v.2.2.2.2.2.2.1, .int .i64 v.2.2.2.2.2.2.2.1], .cells [.int .i64 v.2.2.2.2.2.2.2.2.1, .int .i64 v.2.2.2.2.2.2.2.2.2.1, .int .i64 v.2.2.2.2.2.2.2.2.2.2.1], .rows Riii v.2.2.2.2.2.2.2.2.2.2.2.1, .cells [.int .i64 v.2.2.2.2.2.2.2.2.2.2.2.2.1, .int .i64 v.2.2.2.2.2.2.2.2.2.2.2.2.2.1, .int .i64 v.2.2.2.2.2.2.2.2.2.2.2.2.2.2.1], .cells [.int .i64 v.2.2.2.2.2.2.2.2.2.2.2.2.2.2.2.1, .int .i64 v.2.2.2.2.2.2.2.2.2.2.2.2.2.2.2.2.1], .cells [.int .i64 v.2.2.2.2.2.2.2.2.2.2.2.2.2.2.2.2.2.1, .int .i64 v.2.2.2.2.2.2.2.2.2.2.2.2.2.2.2.2.2.2.1, .int .i64 v.2.2.2.2.2.2.2.2.2.2.2.2.2.2.2.2.2.2.2.1], .cells [.int .i64 v.2.2.2.2.2.2.2.2.2.2.2.2.2.2.2.2.2.2.2.2.1, .int .i64 v.2.2.2.2.2.2.2.2.2.2.2.2.2.2.2.2.2.2.2.2.2]]⟩
def crest_Of_r19 (C : crest_Of_C) (v : crest_Of_Y18) : Dt crest_Of_Y19 := (Dt.bnd (C.2.2.2.2.1 ((v.2.2.2.2.2.2.2.2.2.2.2.2.2.2.2.2.2.1, v.2.2.2.2.2.2.2.2.2.2.2.2.2.2.2.2.2.2.1, v.2.2.2.2.2.2.2.2.2.2.2.2.2.2.2.2.2.2.2.1, ()), (v.2.2.2.2.2.2.2.2.2.2.2.2.1, v.2.2.2.2.2.2.2.2.2.2.2.2.2.1, v.2.2.2.2.2.2.2.2.2.2.2.2.2.2.1, ()), (v.2.2.2.2.2.2.2.2.2.2.2.2.2.2.2.2.2.2.2.2.1, v.2.2.2.2.2.2.2.2.2.2.2.2.2.2.2.2.2.2.2.2.2, ()), ())) fun r1 => (Dt.ret (v.1, r1.1, v.2.1, v.2.2.1, v.2.2.2.1, v.2.2.2.2.2.1, v.2.2.2.2.2.2.1, v.2.2.2.2.2.2.2.1, v.2.2.2.2.2.2.2.2.1, v.2.2.2.2.2.2.2.2.2.1, v.2.2.2.2.2.2.2.2.2.2.1, v.2.2.2.2.2.2.2.2.2.2.2.1, v.2.2.2.2.2.2.2.2.2.2.2.2.1, v.2.2.2.2.2.2.2.2.2.2.2.2.2.1, v.2.2.2.2.2.2.2.2.2.2.2.2.2.2.1, v.2.2.2.2.2.2.2.2.2.2.2.2.2.2.2.1, v.2.2.2.2.2.2.2.2.2.2.2.2.2.2.2.2.1, v.2.2.2.2.2.2.2.2.2.2.2.2.2.2.2.2.2.1, v.2.2.2.2.2.2.2.2.2.2.2.2.2.2.2.2.2.2.1, v.2.2.2.2.2.2.2.2.2.2.2.2.2.2.2.2.2.2.2.1, v.2.2.2.2.2.2.2.2.2.2.2.2.2.2.2.2.2.2.2.2.1, v.2.2.2.2.2.2.2.2.2.2.2.2.2.2.2.2.2.2.2.2.2)))
theorem crest_Of_g19 (C : crest_Of_C) (v : crest_Of_Y18) : treg tysT (orc (crest_Of_tab C)) 101 (regO (bodyOf f7) 19) false [(2, (.box [.val Riii])), (3, .any), (8, .any), (10, (.own Riii)), (11, .any), (12, .any), (14, .any), (15, .any), (18, .any), (19, .any), (47, (.val Riii)), (48, .any), (49, .any)] (crest_Of_S18 v) some = (crest_Of_r19 C v).eval fun y => some (crest_Of_S19 y) := by kernel_rfl
abbrev crest_Of_Y20 : Type := Int × List Diii × Int × Int × Bool × List Diii × Int × Int × Int × Int × Int × List Diii × Int × Int × Int × Int × Int × Int × Int × Int × Int × Int
def crest_Of_S20 (v : crest_Of_Y20) : St := ⟨[(2, .ptr 0 0), (3, .ptr 1 0), (8, .ptr 2 0), (10, .rs 3), (11, .ptr 4 0), (12, .ptr 5 0), (14, .ptr 6 0), (15, .ptr 7 0), (18, .int .i64 v.1), (47, .fz Riii v.2.1), (48, .int .i64 v.2.2.1), (49, .int .i64 v.2.2.2.1), (82, .bool v.2.2.2.2.1)], [.cells [.fz Riii v.2.2.2.2.2.1], .cells [.int .i64 v.2.2.2.2.2.2.1, .int .i64 v.2.2.2.2.2.2.2.1], .cells [.int .i64 v.2.2.2.2.2.2.2.2.1, .int .i64 v.2.2.2.2.2.2.2.2.2.1, .int .i64 v.2.2.2.2.2.2.2.2.2.2.1], .rows Riii v.2.2.2.2.2.2.2.2.2.2.2.1, .cells [.int .i64 v.2.2.2.2.2.2.2.2.2.2.2.2.1, .int .i64 v.2.2.2.2.2.2.2.2.2.2.2.2.2.1, .int .i64 v.2.2.2.2.2.2.2.2.2.2.2.2.2.2.1], .cells [.int .i64 v.2.2.2.2.2.2.2.2.2.2.2.2.2.2.2.1, .int .i64 v.2.2.2.2.2.2.2.2.2.2.2.2.2.2.2.2.1], .cells [.int .i64 v.2.2.2.2.2.2.2.2.2.2.2.2.2.2.2.2.2.1, .int .i64 v.2.2.2.2.2.2.2.2.2.2.2.2.2.2.2.2.2.2.1, .int .i64 v.2.2.2.2.2.2.2.2.2.2.2.2.2.2.2.2.2.2.2.1], .cells [.int .i64 v.2.2.2.2.2.2.2.2.2.2.2.2.2.2.2.2.2.2.2.2.1, .int .i64 v.2.2.2.2.2.2.2.2.2.2.2.2.2.2.2.2.2.2.2.2.2]]⟩
def crest_Of_r20 (C : crest_Of_C) (v : crest_Of_Y19) : Dt crest_Of_Y20 := (Dt.ret (v.1, v.2.2.1, v.2.2.2.1, v.2.2.2.2.1, v.2.1, v.2.2.2.2.2.1, v.2.2.2.2.2.2.1, v.2.2.2.2.2.2.2.1, v.2.2.2.2.2.2.2.2.1, v.2.2.2.2.2.2.2.2.2.1, v.2.2.2.2.2.2.2.2.2.2.1, v.2.2.2.2.2.2.2.2.2.2.2.1, v.2.2.2.2.2.2.2.2.2.2.2.2.1, v.2.2.2.2.2.2.2.2.2.2.2.2.2.1, v.2.2.2.2.2.2.2.2.2.2.2.2.2.2.1, v.2.2.2.2.2.2.2.2.2.2.2.2.2.2.2.1, v.2.2.2.2.2.2.2.2.2.2.2.2.2.2.2.2.1, v.2.2.2.2.2.2.2.2.2.2.2.2.2.2.2.2.2.1, v.2.2.2.2.2.2.2.2.2.2.2.2.2.2.2.2.2.2.1, v.2.2.2.2.2.2.2.2.2.2.2.2.2.2.2.2.2.2.2.1, v.2.2.2.2.2.2.2.2.2.2.2.2.2.2.2.2.2.2.2.2.1, v.2.2.2.2.2.2.2.2.2.2.2.2.2.2.2.2.2.2.2.2.2))
theorem crest_Of_g20 (C : crest_Of_C) (v : crest_Of_Y19) : treg tysT (orc (crest_Of_tab C)) 101 (regO (bodyOf f7) 20) false [(2, (.box [.val Riii])), (3, .any), (8, .any), (10, (.own Riii)), (11, .any), (12, .any), (14, .any), (15, .any), (18, .any), (47, (.val Riii)), (48, .any), (49, .any), (82, .any)] (crest_Of_S19 v) some = (crest_Of_r20 C v).eval fun y => some (crest_Of_S20 y) := by kernel_rfl
def crest_Of_r21 (C : crest_Of_C) (v : crest_Of_Y20) : Dt crest_Of_Y15 := (Dt.ret ((-1:Int), v.2.1, v.2.2.1, v.2.2.2.1, v.2.2.2.2.2.1, v.2.2.2.2.2.2.1, v.2.2.2.2.2.2.2.1, v.2.2.2.2.2.2.2.2.1, v.2.2.2.2.2.2.2.2.2.1, v.2.2.2.2.2.2.2.2.2.2.1, v.2.2.2.2.2.2.2.2.2.2.2.1, v.2.2.2.2.2.2.2.2.2.2.2.2.1, v.2.2.2.2.2.2.2.2.2.2.2.2.2.1, v.2.2.2.2.2.2.2.2.2.2.2.2.2.2.1, v.2.2.2.2.2.2.2.2.2.2.2.2.2.2.2.1, v.2.2.2.2.2.2.2.2.2.2.2.2.2.2.2.2.1, v.2.2.2.2.2.2.2.2.2.2.2.2.2.2.2.2.2.1, v.2.2.2.2.2.2.2.2.2.2.2.2.2.2.2.2.2.2.1, v.2.2.2.2.2.2.2.2.2.2.2.2.2.2.2.2.2.2.2.1, v.2.2.2.2.2.2.2.2.2.2.2.2.2.2.2.2.2.2.2.2.1, v.2.2.2.2.2.2.2.2.2.2.2.2.2.2.2.2.2.2.2.2.2))
theorem crest_Of_g21 (C : crest_Of_C) (v : crest_Of_Y20) : treg tysT (orc (crest_Of_tab C)) 101 (regO (bodyOf f7) 21) false [(2, (.box [.val Riii])), (3, .any), (8, .any), (10, (.own Riii)), (11, .any), (12, .any), (14, .any), (15, .any), (18, .any), (47, (.val Riii)), (48, .any), (49, .any)] (crest_Of_S20 v) some = (crest_Of_r21 C v).eval fun y => some (crest_Of_S15 y) := by kernel_rfl
abbrev crest_Of_Y22 : Type := List Diii × Int × Int × Bool × List Diii × Int × Int × Int × Int × Int × List Diii × Int × Int × Int × Int × Int × Int × Int × Int × Int × Int
def crest_Of_S22 (v : crest_Of_Y22) : St := ⟨[(2, .ptr 0 0), (3, .ptr 1 0), (8, .ptr 2 0), (10, .rs 3), (11, .ptr 4 0), (12, .ptr 5 0), (14, .ptr 6 0), (15, .ptr 7 0), (47, .fz Riii v.1), (48, .int .i64 v.2.1), (49, .int .i64 v.2.2.1), (84, .bool v.2.2.2.1)], [.cells [.fz Riii v.2.2.2.2.1], .cells [.int .i64 v.2.2.2.2.2.1, .int .i64 v.2.2.2.2.2.2.1], .cells [.int .i64 v.2.2.2.2.2.2.2.1, .int .i64 v.2.2.2.2.2.2.2.2.1, .int .i64 v.2.2.2.2.2.2.2.2.2.1], .rows Riii v.2.2.2.2.2.2.2.2.2.2.1, .cells [.int .i64 v.2.2.2.2.2.2.2.2.2.2.2.1, .int .i64 v.2.2.2.2.2.2.2.2.2.2.2.2.1, .int .i64 v.2.2.2.2.2.2.2.2.2.2.2.2.2.1], .cells [.int .i64 v.2.2.2.2.2.2.2.2.2.2.2.2.2.2.1, .int .i64 v.2.2.2.2.2.2.2.2.2.2.2.2.2.2.2.1], .cells [.int .i64 v.2.2.2.2.2.2.2.2.2.2.2.2.2.2.2.2.1, .int .i64 v.2.2.2.2.2.2.2.2.2.2.2.2.2.2.2.2.2.1, .int .i64 v.2.2.2.2.2.2.2.2.2.2.2.2.2.2.2.2.2.2.1], .cells [.int .i64 v.2.2.2.2.2.2.2.2.2.2.2.2.2.2.2.2.2.2.2.1, .int .i64 v.2.2.2.2.2.2.2.2.2.2.2.2.2.2.2.2.2.2.2.2]]⟩
def crest_Of_r22 (C : crest_Of_C) (v : crest_Of_Y15) : Dt crest_Of_Y22 := (Dt.ret (v.2.1, v.2.2.1, v.2.2.2.1, (decide (v.1 < (0:Int))), v.2.2.2.2.1, v.2.2.2.2.2.1, v.2.2.2.2.2.2.1, v.2.2.2.2.2.2.2.1, v.2.2.2.2.2.2.2.2.1, v.2.2.2.2.2.2.2.2.2.1, v.2.2.2.2.2.2.2.2.2.2.1, v.2.2.2.2.2.2.2.2.2.2.2.1, v.2.2.2.2.2.2.2.2.2.2.2.2.1, v.2.2.2.2.2.2.2.2.2.2.2.2.2.1, v.2.2.2.2.2.2.2.2.2.2.2.2.2.2.1, v.2.2.2.2.2.2.2.2.2.2.2.2.2.2.2.1, v.2.2.2.2.2.2.2.2.2.2.2.2.2.2.2.2.1, v.2.2.2.2.2.2.2.2.2.2.2.2.2.2.2.2.2.1, v.2.2.2.2.2.2.2.2.2.2.2.2.2.2.2.2.2.2.1, v.2.2.2.2.2.2.2.2.2.2.2.2.2.2.2.2.2.2.2.1, v.2.2.2.2.2.2.2.2.2.2.2.2.2.2.2.2.2.2.2.2))
theorem crest_Of_g22 (C : crest_Of_C) (v : crest_Of_Y15) : treg tysT (orc (crest_Of_tab C)) 101 (regO (bodyOf f7) 22) false [(2, (.box [.val Riii])), (3, .any), (8, .any), (10, (.own Riii)), (11, .any), (12, .any), (14, .any), (15, .any), (47, (.val Riii)), (48, .any), (49, .any), (84, .any)] (crest_Of_S15 v) some = (crest_Of_r22 C v).eval fun y => some (crest_Of_S22 y) := by kernel_rfl
def crest_Of_r23 (C : crest_Of_C) (v : crest_Of_Y22) : Dt crest_Of_Y10 := (Dt.ret (v.1, v.2.1, v.2.2.1, v.2.2.2.2.1, v.2.2.2.2.2.1, v.2.2.2.2.2.2.1, v.2.2.2.2.2.2.2.1, v.2.2.2.2.2.2.2.2.1, v.2.2.2.2.2.2.2.2.2.1, v.2.2.2.2.2.2.2.2.2.2.1, v.2.2.2.2.2.2.2.2.2.2.2.2.2.2.2.2.1, v.2.2.2.2.2.2.2.2.2.2.2.2.2.2.2.2.2.1, v.2.2.2.2.2.2.2.2.2.2.2.2.2.2.2.2.2.2.1, v.2.2.2.2.2.2.2.2.2.2.2.2.2.2.2.2.2.2.2.1, v.2.2.2.2.2.2.2.2.2.2.2.2.2.2.2.2.2.2.2.2))
theorem crest_Of_g23 (C : crest_Of_C) (v : crest_Of_Y22) : treg tysT (orc (crest_Of_tab C)) 101 (regO (bodyOf f7) 23) true [(2, (.box [.val Riii])), (3, .any), (8, .any), (10, (.own Riii)), (11, .any), (12, .any), (47, (.val Riii)), (48, .any), (49, .any)] (crest_Of_S22 v) some = (crest_Of_r23 C v).eval fun y => some (crest_Of_S10 y) := by kernel_rfl
def crest_Of_J5  (d : Nat) (self1 : (List Diii × Int × Int × Int × Int × Int × List Diii) → Option crest_Of_R) (self2 : (List Diii × Int × Int × List Diii × Int × Int × Int × Int × Int × List Diii × Int × Int × Int × Int × Int) → Option crest_Of_R) (z : Int × List Diii × Int × Int × List Diii × Int × Int × Int × Int × Int × List Diii × Int × Int × Int × Int × Int × Int × Int × Int × Int × Int) : Option (crest_Of_R) :=
  (crest_Of_r22 (crest_Of_K d) z).eval fun y22 =>
  bif y22.2.2.2.1 then ((crest_Of_r23 (crest_Of_K d) y22).eval fun y23 =>
  crest_Of_J3 d self1 self2 y23) else (crest_Of_J3 d self1 self2 (y22.1, y22.2.1, y22.2.2.1, y22.2.2.2.2.1, y22.2.2.2.2.2.1, y22.2.2.2.2.2.2.1, y22.2.2.2.2.2.2.2.1, y22.2.2.2.2.2.2.2.2.1, y22.2.2.2.2.2.2.2.2.2.1, y22.2.2.2.2.2.2.2.2.2.2.1, y22.2.2.2.2.2.2.2.2.2.2.2.1, y22.2.2.2.2.2.2.2.2.2.2.2.2.1, y22.2.2.2.2.2.2.2.2.2.2.2.2.2.1, y22.2.2.2.2.2.2.2.2.2.2.2.2.2.2.1, y22.2.2.2.2.2.2.2.2.2.2.2.2.2.2.2.1))
def crest_Of_J4  (d : Nat) (self1 : (List Diii × Int × Int × Int × Int × Int × List Diii) → Option crest_Of_R) (self2 : (List Diii × Int × Int × List Diii × Int × Int × Int × Int × Int × List Diii × Int × Int × Int × Int × Int) → Option crest_Of_R) (z : Int × List Diii × Int × Int × List Diii × Int × Int × Int × Int × Int × List Diii × Int × Int × Int × Int × Int × Int × Int × Int × Int × Int) : Option (crest_Of_R) :=
  (crest_Of_r18 (crest_Of_K d) z).eval fun y18 =>
  bif y18.2.2.2.2.1 then ((crest_Of_r19 (crest_Of_K d) y18).eval fun y19 =>
  (crest_Of_r20 (crest_Of_K d) y19).eval fun y20 =>
  bif y20.2.2.2.2.1 then ((crest_Of_r21 (crest_Of_K d) y20).eval fun y21 =>
  crest_Of_J5 d self1 self2 y21) else (crest_Of_J5 d self1 self2 (y20.1, y20.2.1, y20.2.2.1, y20.2.2.2.1, y20.2.2.2.2.2.1, y20.2.2.2.2.2.2.1, y20.2.2.2.2.2.2.2.1, y20.2.2.2.2.2.2.2.2.1, y20.2.2.2.2.2.2.2.2.2.1, y20.2.2.2.2.2.2.2.2.2.2.1, y20.2.2.2.2.2.2.2.2.2.2.2.1, y20.2.2.2.2.2.2.2.2.2.2.2.2.1, y20.2.2.2.2.2.2.2.2.2.2.2.2.2.1, y20.2.2.2.2.2.2.2.2.2.2.2.2.2.2.1, y20.2.2.2.2.2.2.2.2.2.2.2.2.2.2.2.1, y20.2.2.2.2.2.2.2.2.2.2.2.2.2.2.2.2.1, y20.2.2.2.2.2.2.2.2.2.2.2.2.2.2.2.2.2.1, y20.2.2.2.2.2.2.2.2.2.2.2.2.2.2.2.2.2.2.1, y20.2.2.2.2.2.2.2.2.2.2.2.2.2.2.2.2.2.2.2.1, y20.2.2.2.2.2.2.2.2.2.2.2.2.2.2.2.2.2.2.2.2.1, y20.2.2.2.2.2.2.2.2.2.2.2.2.2.2.2.2.2.2.2.2.2))) else (crest_Of_J5 d self1 self2 (y18.1, y18.2.1, y18.2.2.1, y18.2.2.2.1, y18.2.2.2.2.2.1, y18.2.2.2.2.2.2.1, y18.2.2.2.2.2.2.2.1, y18.2.2.2.2.2.2.2.2.1, y18.2.2.2.2.2.2.2.2.2.1, y18.2.2.2.2.2.2.2.2.2.2.1, y18.2.2.2.2.2.2.2.2.2.2.2.1, y18.2.2.2.2.2.2.2.2.2.2.2.2.1, y18.2.2.2.2.2.2.2.2.2.2.2.2.2.1, y18.2.2.2.2.2.2.2.2.2.2.2.2.2.2.1, y18.2.2.2.2.2.2.2.2.2.2.2.2.2.2.2.1, y18.2.2.2.2.2.2.2.2.2.2.2.2.2.2.2.2.1, y18.2.2.2.2.2.2.2.2.2.2.2.2.2.2.2.2.2.1, y18.2.2.2.2.2.2.2.2.2.2.2.2.2.2.2.2.2.2.1, y18.2.2.2.2.2.2.2.2.2.2.2.2.2.2.2.2.2.2.2.1, y18.2.2.2.2.2.2.2.2.2.2.2.2.2.2.2.2.2.2.2.2.1, y18.2.2.2.2.2.2.2.2.2.2.2.2.2.2.2.2.2.2.2.2.2))
abbrev crest_Of_Y25 : Type := Bool × List Diii × Int × Int × Int × Int × Int × List Diii × Int × Int × Int × Int × Int
def crest_Of_S25 (v : crest_Of_Y25) : St := ⟨[(2, .ptr 0 0), (3, .ptr 1 0), (8, .ptr 2 0), (10, .rs 3), (11, .ptr 4 0), (12, .ptr 5 0), (90, .bool v.1)], [.cells [.fz Riii v.2.1], .cells [.int .i64 v.2.2.1, .int .i64 v.2.2.2.1], .cells [.int .i64 v.2.2.2.2.1, .int .i64 v.2.2.2.2.2.1, .int .i64 v.2.2.2.2.2.2.1], .rows Riii v.2.2.2.2.2.2.2.1, .cells [.int .i64 v.2.2.2.2.2.2.2.2.1, .int .i64 v.2.2.2.2.2.2.2.2.2.1, .int .i64 v.2.2.2.2.2.2.2.2.2.2.1], .cells [.int .i64 v.2.2.2.2.2.2.2.2.2.2.2.1, .int .i64 v.2.2.2.2.2.2.2.2.2.2.2.2]]⟩
def crest_Of_r25 (C : crest_Of_C) (v : crest_Of_Y11) : Dt crest_Of_Y25 := (Dt.ret ((v.2.2.2.2.2.2.2.2.2.2.2.2.2.2.2 == (0:Int)), v.2.2.2.2.1, v.2.2.2.2.2.1, v.2.2.2.2.2.2.1, v.2.2.2.2.2.2.2.1, v.2.2.2.2.2.2.2.2.1, v.2.2.2.2.2.2.2.2.2.1, v.2.2.2.2.2.2.2.2.2.2.1, v.2.2.2.2.2.2.2.2.2.2.2.1, v.2.2.2.2.2.2.2.2.2.2.2.2.1, v.2.2.2.2.2.2.2.2.2.2.2.2.2.1, v.2.2.2.2.2.2.2.2.2.2.2.2.2.2.1, v.2.2.2.2.2.2.2.2.2.2.2.2.2.2.2))
theorem crest_Of_g25 (C : crest_Of_C) (v : crest_Of_Y11) : treg tysT (orc (crest_Of_tab C)) 101 (regO (bodyOf f7) 25) false [(2, (.box [.val Riii])), (3, .any), (8, .any), (10, (.own Riii)), (11, .any), (12, .any), (90, .any)] (crest_Of_S11 v) some = (crest_Of_r25 C v).eval fun y => some (crest_Of_S25 y) := by kernel_rfl
def crest_Of_r26 (C : crest_Of_C) (v : crest_Of_Y25) : Dt crest_Of_Y3 := (Dt.ret ((0:Int), v.2.2.2.2.2.2.2.1))
theorem crest_Of_g26 (C : crest_Of_C) (v : crest_Of_Y25) : treg tysT (orc (crest_Of_tab C)) 101 (regO (bodyOf f7) 26) false [(4, (.own Riii)), (5, .any)] (crest_Of_S25 v) some = (crest_Of_r26 C v).eval fun y => some (crest_Of_S3 y) := by kernel_rfl
def crest_Of_r27 (C : crest_Of_C) (v : crest_Of_Y25) : Dt crest_Of_Y9 := (Dt.ret (v.2.1, v.2.2.2.2.2.2.2.2.2.2.2.1, v.2.2.2.2.2.2.2.2.2.2.2.2, v.2.2.2.2.2.2.2.2.1, v.2.2.2.2.2.2.2.2.2.1, v.2.2.2.2.2.2.2.2.2.2.1, v.2.2.2.2.2.2.2.1, v.2.2.2.2.2.2.2.2.1, v.2.2.2.2.2.2.2.2.2.1, v.2.2.2.2.2.2.2.2.2.2.1, v.2.2.2.2.2.2.2.2.2.2.2.1, v.2.2.2.2.2.2.2.2.2.2.2.2))
theorem crest_Of_g27 (C : crest_Of_C) (v : crest_Of_Y25) : treg tysT (orc (crest_Of_tab C)) 101 (regO (bodyOf f7) 27) true [(2, (.box [.val Riii])), (3, .any), (8, .any), (10, (.own Riii)), (11, .any), (12, .any)] (crest_Of_S25 v) some = (crest_Of_r27 C v).eval fun y => some (crest_Of_S9 y) := by kernel_rfl
def crest_Of_r28 (C : crest_Of_C) (v : crest_Of_Y9) : Dt crest_Of_Y7 := (Dt.ite (apB (List.length v.2.2.2.2.2.2.1) (List.length ([(v.2.2.2.2.2.2.2.2.2.2.1, v.2.2.2.2.2.2.2.2.2.2.2, v.2.2.2.2.2.2.2.1, ())] : List Diii))) (Dt.ret (v.1, v.2.1, v.2.2.1, v.2.2.2.1, v.2.2.2.2.1, v.2.2.2.2.2.1, (v.2.2.2.2.2.2.1 ++ ([(v.2.2.2.2.2.2.2.2.2.2.1, v.2.2.2.2.2.2.2.2.2.2.2, v.2.2.2.2.2.2.2.1, ())] : List Diii)))) Dt.fail)
theorem crest_Of_g28 (C : crest_Of_C) (v : crest_Of_Y9) : treg tysT (orc (crest_Of_tab C)) 101 (regO (bodyOf f7) 28) false [(2, (.box [.val Riii])), (3, .any), (8, .any), (10, (.own Riii))] (crest_Of_S9 v) some = (crest_Of_r28 C v).eval fun y => some (crest_Of_S7 y) := by kernel_rfl
def crest_Of_L2 (d : Nat) (self1 : (List Diii × Int × Int × Int × Int × Int × List Diii) → Option crest_Of_R) (self2 : (List Diii × Int × Int × List Diii × Int × Int × Int × Int × Int × List Diii × Int × Int × Int × Int × Int) → Option crest_Of_R) (x2 : List Diii × Int × Int × List Diii × Int × Int × Int × Int × Int × List Diii × Int × Int × Int × Int × Int) : Option crest_Of_R :=
  (crest_Of_r11 (crest_Of_K d) x2).eval fun y11 =>
  bif y11.2.2.2.1 then ((crest_Of_r12 (crest_Of_K d) y11).eval fun y12 =>
  (crest_Of_r13 (crest_Of_K d) y12).eval fun y13 =>
  (crest_Of_r14 (crest_Of_K d) y13).eval fun y14 =>
  bif y14.2.2.2.1 then (crest_Of_J3 d self1 self2 (y14.1, y14.2.1, y14.2.2.1, y14.2.2.2.2.1, y14.2.2.2.2.2.1, y14.2.2.2.2.2.2.1, y14.2.2.2.2.2.2.2.1, y14.2.2.2.2.2.2.2.2.1, y14.2.2.2.2.2.2.2.2.2.1, y14.2.2.2.2.2.2.2.2.2.2.1, y14.2.2.2.2.2.2.2.2.2.2.2.1, y14.2.2.2.2.2.2.2.2.2.2.2.2.1, y14.2.2.2.2.2.2.2.2.2.2.2.2.2.1, y14.2.2.2.2.2.2.2.2.2.2.2.2.2.2.1, y14.2.2.2.2.2.2.2.2.2.2.2.2.2.2.2.1)) else ((crest_Of_r15 (crest_Of_K d) y14).eval fun y15 =>
  (crest_Of_r16 (crest_Of_K d) y15).eval fun y16 =>
  bif y16.2.2.2.2.1 then ((crest_Of_r17 (crest_Of_K d) y16).eval fun y17 =>
  crest_Of_J4 d self1 self2 y17) else (crest_Of_J4 d self1 self2 (y16.1, y16.2.1, y16.2.2.1, y16.2.2.2.1, y16.2.2.2.2.2.1, y16.2.2.2.2.2.2.1, y16.2.2.2.2.2.2.2.1, y16.2.2.2.2.2.2.2.2.1, y16.2.2.2.2.2.2.2.2.2.1, y16.2.2.2.2.2.2.2.2.2.2.1, y16.2.2.2.2.2.2.2.2.2.2.2.1, y16.2.2.2.2.2.2.2.2.2.2.2.2.1, y16.2.2.2.2.2.2.2.2.2.2.2.2.2.1, y16.2.2.2.2.2.2.2.2.2.2.2.2.2.2.1, y16.2.2.2.2.2.2.2.2.2.2.2.2.2.2.2.1, y16.2.2.2.2.2.2.2.2.2.2.2.2.2.2.2.2.1, y16.2.2.2.2.2.2.2.2.2.2.2.2.2.2.2.2.2.1, y16.2.2.2.2.2.2.2.2.2.2.2.2.2.2.2.2.2.2.1, y16.2.2.2.2.2.2.2.2.2.2.2.2.2.2.2.2.2.2.2.1, y16.2.2.2.2.2.2.2.2.2.2.2.2.2.2.2.2.2.2.2.2.1, y16.2.2.2.2.2.2.2.2.2.2.2.2.2.2.2.2.2.2.2.2.2)))) else ((crest_Of_r25 (crest_Of_K d) y11).eval fun y25 =>
  bif y25.1 then ((crest_Of_r26 (crest_Of_K d) y25).eval fun y26 =>
  some (y26.2, y26.1)) else ((crest_Of_r27 (crest_Of_K d) y25).eval fun y27 =>
  (crest_Of_r28 (crest_Of_K d) y27).eval fun y28 =>
  self1 y28))
def crest_Of_L1 (d : Nat) (self1 : (List Diii × Int × Int × Int × Int × Int × List Diii) → Option crest_Of_R) (x1 : List Diii × Int × Int × Int × Int × Int × List Diii) : Option crest_Of_R :=
  (crest_Of_r8 (crest_Of_K d) x1).eval fun y8 =>
  (crest_Of_r9 (crest_Of_K d) y8).eval fun y9 =>
  (crest_Of_r10 (crest_Of_K d) y9).eval fun y10 =>
  iter (crest_Of_L2 d self1) d y10
def F_crest_Of (d : Nat) (x : crest_Of_X) : Option crest_Of_R :=
  (crest_Of_r0 (crest_Of_K d) (x.1.1, x.2.1.1, x.2.1.2.1)).eval fun y0 =>
  (crest_Of_r1 (crest_Of_K d) y0).eval fun y1 =>
  (crest_Of_r2 (crest_Of_K d) y1).eval fun y2 =>
  bif y2.2.1 then ((crest_Of_r3 (crest_Of_K d) y2).eval fun y3 =>
  some (y3.2, y3.1)) else ((crest_Of_r4 (crest_Of_K d) y2).eval fun y4 =>
  bif y4.1 then ((crest_Of_r5 (crest_Of_K d) y4).eval fun y5 =>
  some (y5.2, y5.1)) else ((crest_Of_r6 (crest_Of_K d) y4).eval fun y6 =>
  (crest_Of_r7 (crest_Of_K d) y6).eval fun y7 =>
  iter (crest_Of_L1 d ) d y7))
theorem crest_Of_cok (d : Nat) : COK prog (crest_Of_sp (F_crest_Of d)) := by
  have hm : prog.follows .mixedOrders = true := mixed
  have hT := tys
  have hC0 : OrcOK prog (orc (crest_Of_tab (crest_Of_K d))) := orc_ok (by
    intro S hS
    simp only [crest_Of_tab, List.mem_cons, List.not_mem_nil, or_false] at hS
    rcases hS with rfl | rfl | rfl | rfl | rfl
    · exact field_Order_cok d
    · exact field_Find_cok d
    · exact course_Fails_cok d
    · exact crest_compare_cok d
    · exact course_Ahead_cok d)
  have hC : OrcOK prog (orc (crest_Of_tab (crest_Of_K d))) := hC0
  refine cok_of (c := bodyOf f7) (fn := f7) hT (by kernel_rfl) (by kernel_rfl) (by decide) fun x r h w0 φ0 Q hend => ?_
  replace h : F_crest_Of d x = some r := h
  unfold F_crest_Of at h
  show Run prog w0 φ0 101 (bodyOf f7) ⟨[(0, .agg [.fz Riii x.1.1]), (1, .agg [.int .i64 x.2.1.1, .int .i64 x.2.1.2.1])], []⟩ Q
  refine run_seq ?_
  refine run_reg hm hT hC (crest_Of_g0 (crest_Of_K d) (x.1.1, x.2.1.1, x.2.1.2.1)) h ?_
  intro y0 h
  refine cn_then ?_
  refine run_seq ?_
  refine run_reg hm hT hC (crest_Of_g1 (crest_Of_K d) y0) h ?_
  intro y1 h
  refine cn_then ?_
  refine run_seq ?_
  refine run_seq ?_
  refine run_reg hm hT hC (crest_Of_g2 (crest_Of_K d) y1) h ?_
  intro y2 h
  refine cn_then ?_
  refine run_cond (v := y2.2.1) (by kernel_rfl) h ?_ ?_
  ·
    intro h
    refine run_seq ?_
    refine run_reg hm hT hC (crest_Of_g3 (crest_Of_K d) y2) h ?_
    intro y3 h
    refine cn_then ?_
    refine run_ret ?_
    refine cn_then_ret ?_
    cases h
    exact (hend _ (by kernel_rfl)).2
  ·
    intro h
    refine run_skip ?_
    refine cn_then ?_
    refine run_seq ?_
    refine run_seq ?_
    refine run_reg hm hT hC (crest_Of_g4 (crest_Of_K d) y2) h ?_
    intro y4 h
    refine cn_then ?_
    refine run_cond (v := y4.1) (by kernel_rfl) h ?_ ?_
    ·
      intro h
      refine run_seq ?_
      refine run_reg hm hT hC (crest_Of_g5 (crest_Of_K d) y4) h ?_
      intro y5 h
      refine cn_then ?_
      refine run_ret ?_
      refine cn_then_ret ?_
      cases h
      exact (hend _ (by kernel_rfl)).2
    ·
      intro h
      refine run_skip ?_
      refine cn_then ?_
      refine run_seq ?_
      refine run_reg hm hT hC (crest_Of_g6 (crest_Of_K d) y4) h ?_
      intro y6 h
      refine cn_then ?_
      refine run_seq ?_
      refine run_reg hm hT hC (crest_Of_g7 (crest_Of_K d) y6) h ?_
      intro y7 h
      refine cn_then ?_
      refine run_block ?_
      refine run_loop (G := iter (crest_Of_L1 d )) (S := (fun x1 => ⟨[(2, .ptr 0 0), (3, .ptr 1 0), (8, .ptr 2 0), (10, .rs 3)], [.cells [.fz Riii x1.1], .cells [.int .i64 x1.2.1, .int .i64 x1.2.2.1], .cells [.int .i64 x1.2.2.2.1, .int .i64 x1.2.2.2.2.1, .int .i64 x1.2.2.2.2.2.1], .rows Riii x1.2.2.2.2.2.2]⟩ : List Diii × Int × Int × Int × Int × Int × List Diii → St)) (fun _ => rfl) ?_ d _ h
      intro n1 x1 h K1 hn1
      replace h : crest_Of_L1 d  (iter (crest_Of_L1 d ) n1) x1 = some r := h
      generalize iter (crest_Of_L1 d ) n1 = self1 at h hn1
      unfold crest_Of_L1 at h
      refine run_block ?_
      refine run_seq ?_
      refine run_reg hm hT hC (crest_Of_g8 (crest_Of_K d) x1) h ?_
      intro y8 h
      refine cn_then ?_
      refine run_seq ?_
      refine run_reg hm hT hC (crest_Of_g9 (crest_Of_K d) y8) h ?_
      intro y9 h
      refine cn_then ?_
      refine run_seq ?_
      refine run_seq ?_
      refine run_reg hm hT hC (crest_Of_g10 (crest_Of_K d) y9) h ?_
      intro y10 h
      refine cn_then ?_
      refine run_block ?_
      refine run_loop (G := iter (crest_Of_L2 d self1)) (S := (fun x2 => ⟨[(2, .ptr 0 0), (3, .ptr 1 0), (8, .ptr 2 0), (10, .rs 3), (11, .ptr 4 0), (12, .ptr 5 0), (47, .fz Riii x2.1), (48, .int .i64 x2.2.1), (49, .int .i64 x2.2.2.1)], [.cells [.fz Riii x2.2.2.2.1], .cells [.int .i64 x2.2.2.2.2.1, .int .i64 x2.2.2.2.2.2.1], .cells [.int .i64 x2.2.2.2.2.2.2.1, .int .i64 x2.2.2.2.2.2.2.2.1, .int .i64 x2.2.2.2.2.2.2.2.2.1], .rows Riii x2.2.2.2.2.2.2.2.2.2.1, .cells [.int .i64 x2.2.2.2.2.2.2.2.2.2.2.1, .int .i64 x2.2.2.2.2.2.2.2.2.2.2.2.1, .int .i64 x2.2.2.2.2.2.2.2.2.2.2.2.2.1], .cells [.int .i64 x2.2.2.2.2.2.2.2.2.2.2.2.2.2.1, .int .i64 x2.2.2.2.2.2.2.2.2.2.2.2.2.2.2]]⟩ : List Diii × Int × Int × List Diii × Int × Int × Int × Int × Int × List Diii × Int × Int × Int × Int × Int → St)) (fun _ => rfl) ?_ d _ h
      intro n2 x2 h K2 hn2
      replace h : crest_Of_L2 d self1 (iter (crest_Of_L2 d self1) n2) x2 = some r := h
      generalize iter (crest_Of_L2 d self1) n2 = self2 at h hn2
      unfold crest_Of_L2 at h
      refine run_seq ?_
      refine run_reg hm hT hC (crest_Of_g11 (crest_Of_K d) x2) h ?_
      intro y11 h
      refine cn_then ?_
      refine run_seq ?_
      refine run_cond (v := y11.2.2.2.1) (by kernel_rfl) h ?_ ?_
      ·
        intro h
        refine run_skip ?_
        refine cn_then ?_
        refine run_join (r := r) (F := crest_Of_J3 d self1 self2) (S := (fun z => ⟨[(2, .ptr 0 0), (3, .ptr 1 0), (8, .ptr 2 0), (10, .rs 3), (11, .ptr 4 0), (12, .ptr 5 0), (47, .fz Riii z.1), (48, .int .i64 z.2.1), (49, .int .i64 z.2.2.1)], [.cells [.fz Riii z.2.2.2.1], .cells [.int .i64 z.2.2.2.2.1, .int .i64 z.2.2.2.2.2.1], .cells [.int .i64 z.2.2.2.2.2.2.1, .int .i64 z.2.2.2.2.2.2.2.1, .int .i64 z.2.2.2.2.2.2.2.2.1], .rows Riii z.2.2.2.2.2.2.2.2.2.1, .cells [.int .i64 z.2.2.2.2.2.2.2.2.2.2.1, .int .i64 z.2.2.2.2.2.2.2.2.2.2.2.1, .int .i64 z.2.2.2.2.2.2.2.2.2.2.2.2.1], .cells [.int .i64 z.2.2.2.2.2.2.2.2.2.2.2.2.2.1, .int .i64 z.2.2.2.2.2.2.2.2.2.2.2.2.2.2]]⟩ : List Diii × Int × Int × List Diii × Int × Int × Int × Int × Int × List Diii × Int × Int × Int × Int × Int → St)) ?_ ?_
        ·
          intro z h
          unfold crest_Of_J3 at h
          refine run_reg hm hT hC (crest_Of_g24 (crest_Of_K d) z) h ?_
          intro y24 h
          exact hn2 _ h
        intro hj3
        refine run_block ?_
        refine run_seq ?_
        refine run_reg hm hT hC (crest_Of_g12 (crest_Of_K d) y11) h ?_
        intro y12 h
        refine cn_then ?_
        refine run_seq ?_
        refine run_reg hm hT hC (crest_Of_g13 (crest_Of_K d) y12) h ?_
        intro y13 h
        refine cn_then ?_
        refine run_seq ?_
        refine run_seq ?_
        refine run_reg hm hT hC (crest_Of_g14 (crest_Of_K d) y13) h ?_
        intro y14 h
        refine cn_then ?_
        refine run_cond (v := y14.2.2.2.1) (by kernel_rfl) h ?_ ?_
        ·
          intro h
          refine run_exit ?_
          refine cn_then_exit ?_
          refine cn_blk_eq ?_
          refine cn_num (s := ⟨[(2, .ptr 0 0), (3, .ptr 1 0), (8, .ptr 2 0), (10, .rs 3), (11, .ptr 4 0), (12, .ptr 5 0), (47, .fz Riii y14.1), (48, .int .i64 y14.2.1), (49, .int .i64 y14.2.2.1)], [.cells [.fz Riii y14.2.2.2.2.1], .cells [.int .i64 y14.2.2.2.2.2.1, .int .i64 y14.2.2.2.2.2.2.1], .cells [.int .i64 y14.2.2.2.2.2.2.2.1, .int .i64 y14.2.2.2.2.2.2.2.2.1, .int .i64 y14.2.2.2.2.2.2.2.2.2.1], .rows Riii y14.2.2.2.2.2.2.2.2.2.2.1, .cells [.int .i64 y14.2.2.2.2.2.2.2.2.2.2.2.1, .int .i64 y14.2.2.2.2.2.2.2.2.2.2.2.2.1, .int .i64 y14.2.2.2.2.2.2.2.2.2.2.2.2.2.1], .cells [.int .i64 y14.2.2.2.2.2.2.2.2.2.2.2.2.2.2.1, .int .i64 y14.2.2.2.2.2.2.2.2.2.2.2.2.2.2.2.1]]⟩) [14, 15, 66] (by kernel_rfl) ?_
          exact hj3 _ h
        ·
          intro h
          refine run_skip ?_
          refine cn_then ?_
          refine run_seq ?_
          refine run_reg hm hT hC (crest_Of_g15 (crest_Of_K d) y14) h ?_
          intro y15 h
          refine cn_then ?_
          refine run_join (r := r) (F := crest_Of_J4 d self1 self2) (S := (fun z => ⟨[(2, .ptr 0 0), (3, .ptr 1 0), (8, .ptr 2 0), (10, .rs 3), (11, .ptr 4 0), (12, .ptr 5 0), (14, .ptr 6 0), (15, .ptr 7 0), (18, .int .i64 z.1), (47, .fz Riii z.2.1), (48, .int .i64 z.2.2.1), (49, .int .i64 z.2.2.2.1)], [.cells [.fz Riii z.2.2.2.2.1], .cells [.int .i64 z.2.2.2.2.2.1, .int .i64 z.2.2.2.2.2.2.1], .cells [.int .i64 z.2.2.2.2.2.2.2.1, .int .i64 z.2.2.2.2.2.2.2.2.1, .int .i64 z.2.2.2.2.2.2.2.2.2.1], .rows Riii z.2.2.2.2.2.2.2.2.2.2.1, .cells [.int .i64 z.2.2.2.2.2.2.2.2.2.2.2.1, .int .i64 z.2.2.2.2.2.2.2.2.2.2.2.2.1, .int .i64 z.2.2.2.2.2.2.2.2.2.2.2.2.2.1], .cells [.int .i64 z.2.2.2.2.2.2.2.2.2.2.2.2.2.2.1, .int .i64 z.2.2.2.2.2.2.2.2.2.2.2.2.2.2.2.1], .cells [.int .i64 z.2.2.2.2.2.2.2.2.2.2.2.2.2.2.2.2.1, .int .i64 z.2.2.2.2.2.2.2.2.2.2.2.2.2.2.2.2.2.1, .int .i64 z.2.2.2.2.2.2.2.2.2.2.2.2.2.2.2.2.2.2.1], .cells [.int .i64 z.2.2.2.2.2.2.2.2.2.2.2.2.2.2.2.2.2.2.2.1, .int .i64 z.2.2.2.2.2.2.2.2.2.2.2.2.2.2.2.2.2.2.2.2]]⟩ : Int × List Diii × Int × Int × List Diii × Int × Int × Int × Int × Int × List Diii × Int × Int × Int × Int × Int × Int × Int × Int × Int × Int → St)) ?_ ?_
          ·
            intro z h
            unfold crest_Of_J4 at h
            refine run_join (r := r) (F := crest_Of_J5 d self1 self2) (S := (fun z => ⟨[(2, .ptr 0 0), (3, .ptr 1 0), (8, .ptr 2 0), (10, .rs 3), (11, .ptr 4 0), (12, .ptr 5 0), (14, .ptr 6 0), (15, .ptr 7 0), (18, .int .i64 z.1), (47, .fz Riii z.2.1), (48, .int .i64 z.2.2.1), (49, .int .i64 z.2.2.2.1)], [.cells [.fz Riii z.2.2.2.2.1], .cells [.int .i64 z.2.2.2.2.2.1, .int .i64 z.2.2.2.2.2.2.1], .cells [.int .i64 z.2.2.2.2.2.2.2.1, .int .i64 z.2.2.2.2.2.2.2.2.1, .int .i64 z.2.2.2.2.2.2.2.2.2.1], .rows Riii z.2.2.2.2.2.2.2.2.2.2.1, .cells [.int .i64 z.2.2.2.2.2.2.2.2.2.2.2.1, .int .i64 z.2.2.2.2.2.2.2.2.2.2.2.2.1, .int .i64 z.2.2.2.2.2.2.2.2.2.2.2.2.2.1], .cells [.int .i64 z.2.2.2.2.2.2.2.2.2.2.2.2.2.2.1, .int .i64 z.2.2.2.2.2.2.2.2.2.2.2.2.2.2.2.1], .cells [.int .i64 z.2.2.2.2.2.2.2.2.2.2.2.2.2.2.2.2.1, .int .i64 z.2.2.2.2.2.2.2.2.2.2.2.2.2.2.2.2.2.1, .int .i64 z.2.2.2.2.2.2.2.2.2.2.2.2.2.2.2.2.2.2.1], .cells [.int .i64 z.2.2.2.2.2.2.2.2.2.2.2.2.2.2.2.2.2.2.2.1, .int .i64 z.2.2.2.2.2.2.2.2.2.2.2.2.2.2.2.2.2.2.2.2]]⟩ : Int × List Diii × Int × Int × List Diii × Int × Int × Int × Int × Int × List Diii × Int × Int × Int × Int × Int × Int × Int × Int × Int × Int → St)) ?_ ?_
            ·
              intro z h
              unfold crest_Of_J5 at h
              refine run_seq ?_
              refine run_reg hm hT hC (crest_Of_g22 (crest_Of_K d) z) h ?_
              intro y22 h
              refine cn_then ?_
              refine run_cond (v := y22.2.2.2.1) (by kernel_rfl) h ?_ ?_
              ·
                intro h
                refine run_reg hm hT hC (crest_Of_g23 (crest_Of_K d) y22) h ?_
                intro y23 h
                refine cn_blk ?_
                exact hj3 _ h
              ·
                intro h
                refine run_skip ?_
                refine cn_blk ?_
                refine cn_num (s := ⟨[(2, .ptr 0 0), (3, .ptr 1 0), (8, .ptr 2 0), (10, .rs 3), (11, .ptr 4 0), (12, .ptr 5 0), (47, .fz Riii y22.1), (48, .int .i64 y22.2.1), (49, .int .i64 y22.2.2.1), (84, .bool y22.2.2.2.1)], [.cells [.fz Riii y22.2.2.2.2.1], .cells [.int .i64 y22.2.2.2.2.2.1, .int .i64 y22.2.2.2.2.2.2.1], .cells [.int .i64 y22.2.2.2.2.2.2.2.1, .int .i64 y22.2.2.2.2.2.2.2.2.1, .int .i64 y22.2.2.2.2.2.2.2.2.2.1], .rows Riii y22.2.2.2.2.2.2.2.2.2.2.1, .cells [.int .i64 y22.2.2.2.2.2.2.2.2.2.2.2.1, .int .i64 y22.2.2.2.2.2.2.2.2.2.2.2.2.1, .int .i64 y22.2.2.2.2.2.2.2.2.2.2.2.2.2.1], .cells [.int .i64 y22.2.2.2.2.2.2.2.2.2.2.2.2.2.2.1, .int .i64 y22.2.2.2.2.2.2.2.2.2.2.2.2.2.2.2.1]]⟩) [14, 15] (by kernel_rfl) ?_
                refine cn_num (s := ⟨[(2, .ptr 0 0), (3, .ptr 1 0), (8, .ptr 2 0), (10, .rs 3), (11, .ptr 4 0), (12, .ptr 5 0), (47, .fz Riii y22.1), (48, .int .i64 y22.2.1), (49, .int .i64 y22.2.2.1)], [.cells [.fz Riii y22.2.2.2.2.1], .cells [.int .i64 y22.2.2.2.2.2.1, .int .i64 y22.2.2.2.2.2.2.1], .cells [.int .i64 y22.2.2.2.2.2.2.2.1, .int .i64 y22.2.2.2.2.2.2.2.2.1, .int .i64 y22.2.2.2.2.2.2.2.2.2.1], .rows Riii y22.2.2.2.2.2.2.2.2.2.2.1, .cells [.int .i64 y22.2.2.2.2.2.2.2.2.2.2.2.1, .int .i64 y22.2.2.2.2.2.2.2.2.2.2.2.2.1, .int .i64 y22.2.2.2.2.2.2.2.2.2.2.2.2.2.1], .cells [.int .i64 y22.2.2.2.2.2.2.2.2.2.2.2.2.2.2.1, .int .i64 y22.2.2.2.2.2.2.2.2.2.2.2.2.2.2.2.1]]⟩) [84] (by kernel_rfl) ?_
                exact hj3 _ h
            intro hj5
            refine run_seq ?_
            refine run_reg hm hT hC (crest_Of_g18 (crest_Of_K d) z) h ?_
            intro y18 h
            refine cn_then ?_
            refine run_cond (v := y18.2.2.2.2.1) (by kernel_rfl) h ?_ ?_
            ·
              intro h
              refine run_seq ?_
              refine run_reg hm hT hC (crest_Of_g19 (crest_Of_K d) y18) h ?_
              intro y19 h
              refine cn_then ?_
              refine run_seq ?_
              refine run_reg hm hT hC (crest_Of_g20 (crest_Of_K d) y19) h ?_
              intro y20 h
              refine cn_then ?_
              refine run_cond (v := y20.2.2.2.2.1) (by kernel_rfl) h ?_ ?_
              ·
                intro h
                refine run_reg hm hT hC (crest_Of_g21 (crest_Of_K d) y20) h ?_
                intro y21 h
                exact hj5 _ h
              ·
                intro h
                refine run_skip ?_
                refine cn_num (s := ⟨[(2, .ptr 0 0), (3, .ptr 1 0), (8, .ptr 2 0), (10, .rs 3), (11, .ptr 4 0), (12, .ptr 5 0), (14, .ptr 6 0), (15, .ptr 7 0), (18, .int .i64 y20.1), (47, .fz Riii y20.2.1), (48, .int .i64 y20.2.2.1), (49, .int .i64 y20.2.2.2.1)], [.cells [.fz Riii y20.2.2.2.2.2.1], .cells [.int .i64 y20.2.2.2.2.2.2.1, .int .i64 y20.2.2.2.2.2.2.2.1], .cells [.int .i64 y20.2.2.2.2.2.2.2.2.1, .int .i64 y20.2.2.2.2.2.2.2.2.2.1, .int .i64 y20.2.2.2.2.2.2.2.2.2.2.1], .rows Riii y20.2.2.2.2.2.2.2.2.2.2.2.1, .cells [.int .i64 y20.2.2.2.2.2.2.2.2.2.2.2.2.1, .int .i64 y20.2.2.2.2.2.2.2.2.2.2.2.2.2.1, .int .i64 y20.2.2.2.2.2.2.2.2.2.2.2.2.2.2.1], .cells [.int .i64 y20.2.2.2.2.2.2.2.2.2.2.2.2.2.2.2.1, .int .i64 y20.2.2.2.2.2.2.2.2.2.2.2.2.2.2.2.2.1], .cells [.int .i64 y20.2.2.2.2.2.2.2.2.2.2.2.2.2.2.2.2.2.1, .int .i64 y20.2.2.2.2.2.2.2.2.2.2.2.2.2.2.2.2.2.2.1, .int .i64 y20.2.2.2.2.2.2.2.2.2.2.2.2.2.2.2.2.2.2.2.1], .cells [.int .i64 y20.2.2.2.2.2.2.2.2.2.2.2.2.2.2.2.2.2.2.2.2.1, .int .i64 y20.2.2.2.2.2.2.2.2.2.2.2.2.2.2.2.2.2.2.2.2.2]]⟩) [82] (by kernel_rfl) ?_
                exact hj5 _ h
            ·
              intro h
              refine run_skip ?_
              refine cn_num (s := ⟨[(2, .ptr 0 0), (3, .ptr 1 0), (8, .ptr 2 0), (10, .rs 3), (11, .ptr 4 0), (12, .ptr 5 0), (14, .ptr 6 0), (15, .ptr 7 0), (18, .int .i64 y18.1), (47, .fz Riii y18.2.1), (48, .int .i64 y18.2.2.1), (49, .int .i64 y18.2.2.2.1)], [.cells [.fz Riii y18.2.2.2.2.2.1], .cells [.int .i64 y18.2.2.2.2.2.2.1, .int .i64 y18.2.2.2.2.2.2.2.1], .cells [.int .i64 y18.2.2.2.2.2.2.2.2.1, .int .i64 y18.2.2.2.2.2.2.2.2.2.1, .int .i64 y18.2.2.2.2.2.2.2.2.2.2.1], .rows Riii y18.2.2.2.2.2.2.2.2.2.2.2.1, .cells [.int .i64 y18.2.2.2.2.2.2.2.2.2.2.2.2.1, .int .i64 y18.2.2.2.2.2.2.2.2.2.2.2.2.2.1, .int .i64 y18.2.2.2.2.2.2.2.2.2.2.2.2.2.2.1], .cells [.int .i64 y18.2.2.2.2.2.2.2.2.2.2.2.2.2.2.2.1, .int .i64 y18.2.2.2.2.2.2.2.2.2.2.2.2.2.2.2.2.1], .cells [.int .i64 y18.2.2.2.2.2.2.2.2.2.2.2.2.2.2.2.2.2.1, .int .i64 y18.2.2.2.2.2.2.2.2.2.2.2.2.2.2.2.2.2.2.1, .int .i64 y18.2.2.2.2.2.2.2.2.2.2.2.2.2.2.2.2.2.2.2.1], .cells [.int .i64 y18.2.2.2.2.2.2.2.2.2.2.2.2.2.2.2.2.2.2.2.2.1, .int .i64 y18.2.2.2.2.2.2.2.2.2.2.2.2.2.2.2.2.2.2.2.2.2]]⟩) [74] (by kernel_rfl) ?_
              exact hj5 _ h
          intro hj4
          refine run_seq ?_
          refine run_reg hm hT hC (crest_Of_g16 (crest_Of_K d) y15) h ?_
          intro y16 h
          refine cn_then ?_
          refine run_cond (v := y16.2.2.2.2.1) (by kernel_rfl) h ?_ ?_
          ·
            intro h
            refine run_reg hm hT hC (crest_Of_g17 (crest_Of_K d) y16) h ?_
            intro y17 h
            exact hj4 _ h
          ·
            intro h
            refine run_skip ?_
            refine cn_num (s := ⟨[(2, .ptr 0 0), (3, .ptr 1 0), (8, .ptr 2 0), (10, .rs 3), (11, .ptr 4 0), (12, .ptr 5 0), (14, .ptr 6 0), (15, .ptr 7 0), (18, .int .i64 y16.1), (47, .fz Riii y16.2.1), (48, .int .i64 y16.2.2.1), (49, .int .i64 y16.2.2.2.1)], [.cells [.fz Riii y16.2.2.2.2.2.1], .cells [.int .i64 y16.2.2.2.2.2.2.1, .int .i64 y16.2.2.2.2.2.2.2.1], .cells [.int .i64 y16.2.2.2.2.2.2.2.2.1, .int .i64 y16.2.2.2.2.2.2.2.2.2.1, .int .i64 y16.2.2.2.2.2.2.2.2.2.2.1], .rows Riii y16.2.2.2.2.2.2.2.2.2.2.2.1, .cells [.int .i64 y16.2.2.2.2.2.2.2.2.2.2.2.2.1, .int .i64 y16.2.2.2.2.2.2.2.2.2.2.2.2.2.1, .int .i64 y16.2.2.2.2.2.2.2.2.2.2.2.2.2.2.1], .cells [.int .i64 y16.2.2.2.2.2.2.2.2.2.2.2.2.2.2.2.1, .int .i64 y16.2.2.2.2.2.2.2.2.2.2.2.2.2.2.2.2.1], .cells [.int .i64 y16.2.2.2.2.2.2.2.2.2.2.2.2.2.2.2.2.2.1, .int .i64 y16.2.2.2.2.2.2.2.2.2.2.2.2.2.2.2.2.2.2.1, .int .i64 y16.2.2.2.2.2.2.2.2.2.2.2.2.2.2.2.2.2.2.2.1], .cells [.int .i64 y16.2.2.2.2.2.2.2.2.2.2.2.2.2.2.2.2.2.2.2.2.1, .int .i64 y16.2.2.2.2.2.2.2.2.2.2.2.2.2.2.2.2.2.2.2.2.2]]⟩) [69] (by kernel_rfl) ?_
            exact hj4 _ h
      ·
        intro h
        refine run_exit ?_
        refine cn_then_exit ?_
        refine cn_then_exit ?_
        refine cn_blk_eq ?_
        refine cn_then ?_
        refine run_seq ?_
        refine run_seq ?_
        refine run_reg hm hT hC (crest_Of_g25 (crest_Of_K d) y11) h ?_
        intro y25 h
        refine cn_then ?_
        refine run_cond (v := y25.1) (by kernel_rfl) h ?_ ?_
        ·
          intro h
          refine run_seq ?_
          refine run_reg hm hT hC (crest_Of_g26 (crest_Of_K d) y25) h ?_
          intro y26 h
          refine cn_then ?_
          refine run_ret ?_
          refine cn_then_ret ?_
          refine cn_blk_ret ?_
          refine cn_then_ret ?_
          refine cn_blk_ret ?_
          cases h
          exact (hend _ (by kernel_rfl)).2
        ·
          intro h
          refine run_skip ?_
          refine cn_then ?_
          refine run_seq ?_
          refine run_reg hm hT hC (crest_Of_g27 (crest_Of_K d) y25) h ?_
          intro y27 h
          refine cn_then ?_
          refine run_reg hm hT hC (crest_Of_g28 (crest_Of_K d) y27) h ?_
          intro y28 h
          refine cn_blk ?_
          exact hn1 _ h
end Go.Proofs.Ytpojhcjdcbegiaa
