/- Walks of the references; the orders agree; examples. -/
import Derived.Test.YtdpnndpbbdhnmaaGd
set_option linter.unusedSimpArgs false
set_option linter.unusedVariables false
namespace Go.Proofs.Ytdpnndpbbdhnmaa
open Go Go.Tx Go.Proofs.Try
set_option maxRecDepth 100000
set_option maxHeartbeats 0
abbrev crest_compare_ps : List Pk := [.row Rii true, .row Rii true]
abbrev crest_compare_X : Type := Dii × Dii × Unit
abbrev crest_compare_R : Type := Int
def crest_compare_enc (r : crest_compare_R) : LV × List Ob := (.int .i64 r, [])
def crest_compare_sp (F : crest_compare_X → Option crest_compare_R) : Go.Tx.Spec := ⟨47, crest_compare_ps, crest_compare_R, F, crest_compare_enc⟩
abbrev crest_compare_C : Type := (ratio_Cmp_X → Option ratio_Cmp_R) × Unit
def crest_compare_K (d : Nat) : crest_compare_C := (F_ratio_Cmp d, ())
def crest_compare_tab (C : crest_compare_C) : List Go.Tx.Spec := [ratio_Cmp_sp C.1]
abbrev crest_compare_Y0i : Type := Int × Int × Int × Int
def crest_compare_S0i (v : crest_compare_Y0i) : St := ⟨[(0, .agg [.int .i64 v.1, .int .i64 v.2.1]), (1, .agg [.int .i64 v.2.2.1, .int .i64 v.2.2.2])], []⟩
abbrev crest_compare_Y0 : Type := Int × Int × Int × Int
def crest_compare_S0 (v : crest_compare_Y0) : St := ⟨[(2, .ptr 0 0), (3, .ptr 1 0)], [.cells [.int .i64 v.1, .int .i64 v.2.1], .cells [.int .i64 v.2.2.1, .int .i64 v.2.2.2]]⟩
def crest_compare_r0 (C : crest_compare_C) (v : crest_compare_Y0i) : Dt crest_compare_Y0 := (Dt.ret (v.1, v.2.1, v.2.2.1, v.2.2.2))
theorem crest_compare_g0 (C : crest_compare_C) (v : crest_compare_Y0i) : treg tysT (orc (crest_compare_tab C)) 14 (regO (bodyOf f47) 0) false [(2, .any), (3, .any)] (crest_compare_S0i v) some = (crest_compare_r0 C v).eval fun y => some (crest_compare_S0 y) := by kernel_rfl
abbrev crest_compare_Y1 : Type := Int
def crest_compare_S1 (v : crest_compare_Y1) : St := ⟨[(5, .int .i64 v)], []⟩
def crest_compare_r1 (C : crest_compare_C) (v : crest_compare_Y0) : Dt crest_compare_Y1 := (Dt.bnd (C.1 ((v.1, v.2.1, ()), (v.2.2.1, v.2.2.2, ()), ())) fun r1 => (Dt.ret r1.1))
theorem crest_compare_g1 (C : crest_compare_C) (v : crest_compare_Y0) : treg tysT (orc (crest_compare_tab C)) 14 (regO (bodyOf f47) 1) false [(5, .any)] (crest_compare_S0 v) some = (crest_compare_r1 C v).eval fun y => some (crest_compare_S1 y) := by kernel_rfl
abbrev crest_compare_Y2 : Type := Int
def crest_compare_S2 (v : crest_compare_Y2) : St := ⟨[(4, .int .i64 v)], []⟩
def crest_compare_r2 (C : crest_compare_C) (v : crest_compare_Y1) : Dt crest_compare_Y2 := (Dt.ret v)
theorem crest_compare_g2 (C : crest_compare_C) (v : crest_compare_Y1) : treg tysT (orc (crest_compare_tab C)) 14 (regO (bodyOf f47) 2) false [(4, .any)] (crest_compare_S1 v) some = (crest_compare_r2 C v).eval fun y => some (crest_compare_S2 y) := by kernel_rfl
def F_crest_compare (d : Nat) (x : crest_compare_X) : Option crest_compare_R :=
  (crest_compare_r0 (crest_compare_K d) (x.1.1, x.1.2.1, x.2.1.1, x.2.1.2.1)).eval fun y0 =>
  (crest_compare_r1 (crest_compare_K d) y0).eval fun y1 =>
  (crest_compare_r2 (crest_compare_K d) y1).eval fun y2 =>
  some y2
theorem crest_compare_cok (d : Nat) : COK prog (crest_compare_sp (F_crest_compare d)) := by
  have hm : prog.follows .mixedOrders = true := mixed
  have hT := tys
  have hC0 : OrcOK prog (orc (crest_compare_tab (crest_compare_K d))) := orc_ok (by
    intro S hS
    simp only [crest_compare_tab, List.mem_cons, List.not_mem_nil, or_false] at hS
    subst hS; exact ratio_Cmp_cok d)
  have hC : OrcOK prog (orc (crest_compare_tab (crest_compare_K d))) := hC0
  refine cok_of (c := bodyOf f47) (fn := f47) hT (by kernel_rfl) (by kernel_rfl) (by decide) fun x r h w0 φ0 Q hend => ?_
  replace h : F_crest_compare d x = some r := h
  unfold F_crest_compare at h
  show Run prog w0 φ0 14 (bodyOf f47) ⟨[(0, .agg [.int .i64 x.1.1, .int .i64 x.1.2.1]), (1, .agg [.int .i64 x.2.1.1, .int .i64 x.2.1.2.1])], []⟩ Q
  refine run_seq ?_
  refine run_reg hm hT hC (crest_compare_g0 (crest_compare_K d) (x.1.1, x.1.2.1, x.2.1.1, x.2.1.2.1)) h ?_
  intro y0 h
  refine cn_then ?_
  refine run_seq ?_
  refine run_reg hm hT hC (crest_compare_g1 (crest_compare_K d) y0) h ?_
  intro y1 h
  refine cn_then ?_
  refine run_seq ?_
  refine run_reg hm hT hC (crest_compare_g2 (crest_compare_K d) y1) h ?_
  intro y2 h
  refine cn_then ?_
  refine run_ret ?_
  cases h
  exact (hend _ (by kernel_rfl)).2
abbrev crest_Of_ps : List Pk := [.row RLiiiE true, .row Rii true]
abbrev crest_Of_X : Type := DLiiiE × Dii × Unit
abbrev crest_Of_R : Type := List Diii × Int
def crest_Of_enc (r : crest_Of_R) : LV × List Ob := (.tup [.rs 0, .int .i64 r.2], [.rows Riii r.1])
def crest_Of_sp (F : crest_Of_X → Option crest_Of_R) : Go.Tx.Spec := ⟨14, crest_Of_ps, crest_Of_R, F, crest_Of_enc⟩
abbrev crest_Of_C : Type := (field_Order_X → Option field_Order_R) × (field_Find_X → Option field_Find_R) × (course_Fails_X → Option course_Fails_R) × (crest_compare_X → Option crest_compare_R) × (course_Ahead_X → Option course_Ahead_R) × Unit
def crest_Of_K (d : Nat) : crest_Of_C := (F_field_Order d, F_field_Find d, F_course_Fails d, F_crest_compare d, F_course_Ahead d, ())
def crest_Of_tab (C : crest_Of_C) : List Go.Tx.Spec := [field_Order_sp C.1, field_Find_sp C.2.1, course_Fails_sp C.2.2.1, crest_compare_sp C.2.2.2.1, course_Ahead_sp C.2.2.2.2.1]
abbrev crest_Of_Y0i : Type := List Diii × Int × Int
def crest_Of_S0i (v : crest_Of_Y0i) : St := ⟨[(0, .agg [.fz Riii v.1]), (1, .agg [.int .i64 v.2.1, .int .i64 v.2.2])], []⟩
abbrev crest_Of_Y0 : Type := List Diii × Int × Int
def crest_Of_S0 (v : crest_Of_Y0) : St := ⟨[(2, .ptr 0 0), (3, .ptr 1 0)], [.cells [.fz Riii v.1], .cells [.int .i64 v.2.1, .int .i64 v.2.2]]⟩
def crest_Of_r0 (C : crest_Of_C) (v : crest_Of_Y0i) : Dt crest_Of_Y0 := (Dt.ret (v.1, v.2.1, v.2.2))
theorem crest_Of_g0 (C : crest_Of_C) (v : crest_Of_Y0i) : treg tysT (orc (crest_Of_tab C)) 101 (regO (bodyOf f14) 0) false [(2, (.box [.val Riii])), (3, .any)] (crest_Of_S0i v) some = (crest_Of_r0 C v).eval fun y => some (crest_Of_S0 y) := by kernel_rfl
abbrev crest_Of_Y1 : Type := Int × List Diii × Int × Int × List Di
def crest_Of_S1 (v : crest_Of_Y1) : St := ⟨[(2, .ptr 0 0), (3, .ptr 1 0), (6, .rs 2), (7, .int .i64 v.1)], [.cells [.fz Riii v.2.1], .cells [.int .i64 v.2.2.1, .int .i64 v.2.2.2.1], .rows Ri v.2.2.2.2]⟩
def crest_Of_r1 (C : crest_Of_C) (v : crest_Of_Y0) : Dt crest_Of_Y1 := (Dt.bnd (C.1 ((v.1, ()), (v.2.1, v.2.2, ()), ())) fun r1 => (Dt.ret (r1.2, v.1, v.2.1, v.2.2, r1.1)))
theorem crest_Of_g1 (C : crest_Of_C) (v : crest_Of_Y0) : treg tysT (orc (crest_Of_tab C)) 101 (regO (bodyOf f14) 1) false [(2, (.box [.val Riii])), (3, .any), (6, (.own Ri)), (7, .any)] (crest_Of_S0 v) some = (crest_Of_r1 C v).eval fun y => some (crest_Of_S1 y) := by kernel_rfl
abbrev crest_Of_Y2 : Type := Int × Bool × List Diii × Int × Int × List Di
def crest_Of_S2 (v : crest_Of_Y2) : St := ⟨[(2, .ptr 0 0), (3, .ptr 1 0), (6, .rs 2), (7, .int .i64 v.1), (28, .bool v.2.1)], [.cells [.fz Riii v.2.2.1], .cells [.int .i64 v.2.2.2.1, .int .i64 v.2.2.2.2.1], .rows Ri v.2.2.2.2.2]⟩
def crest_Of_r2 (C : crest_Of_C) (v : crest_Of_Y1) : Dt crest_Of_Y2 := (Dt.ret (v.1, (v.1 != (0:Int)), v.2.1, v.2.2.1, v.2.2.2.1, v.2.2.2.2))
theorem crest_Of_g2 (C : crest_Of_C) (v : crest_Of_Y1) : treg tysT (orc (crest_Of_tab C)) 101 (regO (bodyOf f14) 2) false [(2, (.box [.val Riii])), (3, .any), (6, (.own Ri)), (7, .any), (28, .any)] (crest_Of_S1 v) some = (crest_Of_r2 C v).eval fun y => some (crest_Of_S2 y) := by kernel_rfl
abbrev crest_Of_Y3 : Type := Int × List Diii
def crest_Of_S3 (v : crest_Of_Y3) : St := ⟨[(4, .rs 0), (5, .int .i64 v.1)], [.rows Riii v.2]⟩
def crest_Of_r3 (C : crest_Of_C) (v : crest_Of_Y2) : Dt crest_Of_Y3 := (Dt.ret (v.1, ([] : List Diii)))
theorem crest_Of_g3 (C : crest_Of_C) (v : crest_Of_Y2) : treg tysT (orc (crest_Of_tab C)) 101 (regO (bodyOf f14) 3) false [(4, (.own Riii)), (5, .any)] (crest_Of_S2 v) some = (crest_Of_r3 C v).eval fun y => some (crest_Of_S3 y) := by kernel_rfl
abbrev crest_Of_Y4 : Type := Bool × List Diii × Int × Int × List Di
def crest_Of_S4 (v : crest_Of_Y4) : St := ⟨[(2, .ptr 0 0), (3, .ptr 1 0), (6, .rs 2), (32, .bool v.1)], [.cells [.fz Riii v.2.1], .cells [.int .i64 v.2.2.1, .int .i64 v.2.2.2.1], .rows Ri v.2.2.2.2]⟩
def crest_Of_r4 (C : crest_Of_C) (v : crest_Of_Y2) : Dt crest_Of_Y4 := (Dt.ret (((List.length v.2.2.2.2.2 : Int) == (0:Int)), v.2.2.1, v.2.2.2.1, v.2.2.2.2.1, v.2.2.2.2.2))
theorem crest_Of_g4 (C : crest_Of_C) (v : crest_Of_Y2) : treg tysT (orc (crest_Of_tab C)) 101 (regO (bodyOf f14) 4) false [(2, (.box [.val Riii])), (3, .any), (6, (.own Ri)), (32, .any)] (crest_Of_S2 v) some = (crest_Of_r4 C v).eval fun y => some (crest_Of_S4 y) := by kernel_rfl
def crest_Of_r5 (C : crest_Of_C) (v : crest_Of_Y4) : Dt crest_Of_Y3 := (Dt.ret ((42:Int), ([] : List Diii)))
theorem crest_Of_g5 (C : crest_Of_C) (v : crest_Of_Y4) : treg tysT (orc (crest_Of_tab C)) 101 (regO (bodyOf f14) 5) false [(4, (.own Riii)), (5, .any)] (crest_Of_S4 v) some = (crest_Of_r5 C v).eval fun y => some (crest_Of_S3 y) := by kernel_rfl
abbrev crest_Of_Y6 : Type := List Diii × Int × Int × Int × Int × Int
def crest_Of_S6 (v : crest_Of_Y6) : St := ⟨[(2, .ptr 0 0), (3, .ptr 1 0), (8, .ptr 2 0)], [.cells [.fz Riii v.1], .cells [.int .i64 v.2.1, .int .i64 v.2.2.1], .cells [.int .i64 v.2.2.2.1, .int .i64 v.2.2.2.2.1, .int .i64 v.2.2.2.2.2]]⟩
def crest_Of_r6 (C : crest_Of_C) (v : crest_Of_Y4) : Dt crest_Of_Y6 := (Dt.ite (inB (0:Int) (List.length v.2.2.2.2)) (Dt.bnd (C.2.1 ((v.2.1, ()), ((elt zi v.2.2.2.2 ((0:Int)).toNat).1, ()), ())) fun r1 => (Dt.ret (v.2.1, v.2.2.1, v.2.2.2.1, r1.1, r1.2.1, r1.2.2.1))) Dt.fail)
theorem crest_Of_g6 (C : crest_Of_C) (v : crest_Of_Y4) : treg tysT (orc (crest_Of_tab C)) 101 (regO (bodyOf f14) 6) true [(2, (.box [.val Riii])), (3, .any), (8, .any)] (crest_Of_S4 v) some = (crest_Of_r6 C v).eval fun y => some (crest_Of_S6 y) := by kernel_rfl
abbrev crest_Of_Y7 : Type := List Diii × Int × Int × Int × Int × Int × List Diii
def crest_Of_S7 (v : crest_Of_Y7) : St := ⟨[(2, .ptr 0 0), (3, .ptr 1 0), (8, .ptr 2 0), (10, .rs 3)], [.cells [.fz Riii v.1], .cells [.int .i64 v.2.1, .int .i64 v.2.2.1], .cells [.int .i64 v.2.2.2.1, .int .i64 v.2.2.2.2.1, .int .i64 v.2.2.2.2.2.1], .rows Riii v.2.2.2.2.2.2]⟩
def crest_Of_r7 (C : crest_Of_C) (v : crest_Of_Y6) : Dt crest_Of_Y7 := (Dt.ret (v.1, v.2.1, v.2.2.1, v.2.2.2.1, v.2.2.2.2.1, v.2.2.2.2.2, ([(v.2.1, v.2.2.1, v.2.2.2.1, ())] : List Diii)))
theorem crest_Of_g7 (C : crest_Of_C) (v : crest_Of_Y6) : treg tysT (orc (crest_Of_tab C)) 101 (regO (bodyOf f14) 7) false [(2, (.box [.val Riii])), (3, .any), (8, .any), (10, (.own Riii))] (crest_Of_S6 v) some = (crest_Of_r7 C v).eval fun y => some (crest_Of_S7 y) := by kernel_rfl
abbrev crest_Of_Y8 : Type := List Diii × Int × Int × Int × Int × Int × List Diii × Int × Int × Int
def crest_Of_S8 (v : crest_Of_Y8) : St := ⟨[(2, .ptr 0 0), (3, .ptr 1 0), (8, .ptr 2 0), (10, .rs 3), (11, .ptr 4 0)], [.cells [.fz Riii v.1], .cells [.int .i64 v.2.1, .int .i64 v.2.2.1], .cells [.int .i64 v.2.2.2.1, .int .i64 v.2.2.2.2.1, .int .i64 v.2.2.2.2.2.1], .rows Riii v.2.2.2.2.2.2.1, .cells [.int .i64 v.2.2.2.2.2.2.2.1, .int .i64 v.2.2.2.2.2.2.2.2.1, .int .i64 v.2.2.2.2.2.2.2.2.2]]⟩
def crest_Of_r8 (C : crest_Of_C) (v : crest_Of_Y7) : Dt crest_Of_Y8 := (Dt.ret (v.1, v.2.1, v.2.2.1, v.2.2.2.1, v.2.2.2.2.1, v.2.2.2.2.2.1, v.2.2.2.2.2.2, (0:Int), (0:Int), (0:Int)))
theorem crest_Of_g8 (C : crest_Of_C) (v : crest_Of_Y7) : treg tysT (orc (crest_Of_tab C)) 101 (regO (bodyOf f14) 8) false [(2, (.box [.val Riii])), (3, .any), (8, .any), (10, (.own Riii)), (11, .any)] (crest_Of_S7 v) some = (crest_Of_r8 C v).eval fun y => some (crest_Of_S8 y) := by kernel_rfl
abbrev crest_Of_Y9 : Type := List Diii × Int × Int × Int × Int × Int × List Diii × Int × Int × Int × Int × Int
def crest_Of_S9 (v : crest_Of_Y9) : St := ⟨[(2, .ptr 0 0), (3, .ptr 1 0), (8, .ptr 2 0), (10, .rs 3), (11, .ptr 4 0), (12, .ptr 5 0)], [.cells [.fz Riii v.1], .cells [.int .i64 v.2.1, .int .i64 v.2.2.1], .cells [.int .i64 v.2.2.2.1, .int .i64 v.2.2.2.2.1, .int .i64 v.2.2.2.2.2.1], .rows Riii v.2.2.2.2.2.2.1, .cells [.int .i64 v.2.2.2.2.2.2.2.1, .int .i64 v.2.2.2.2.2.2.2.2.1, .int .i64 v.2.2.2.2.2.2.2.2.2.1], .cells [.int .i64 v.2.2.2.2.2.2.2.2.2.2.1, .int .i64 v.2.2.2.2.2.2.2.2.2.2.2]]⟩
def crest_Of_r9 (C : crest_Of_C) (v : crest_Of_Y8) : Dt crest_Of_Y9 := (Dt.ret (v.1, v.2.1, v.2.2.1, v.2.2.2.1, v.2.2.2.2.1, v.2.2.2.2.2.1, v.2.2.2.2.2.2.1, v.2.2.2.2.2.2.2.1, v.2.2.2.2.2.2.2.2.1, v.2.2.2.2.2.2.2.2.2, (0:Int), (0:Int)))
theorem crest_Of_g9 (C : crest_Of_C) (v : crest_Of_Y8) : treg tysT (orc (crest_Of_tab C)) 101 (regO (bodyOf f14) 9) false [(2, (.box [.val Riii])), (3, .any), (8, .any), (10, (.own Riii)), (11, .any), (12, .any)] (crest_Of_S8 v) some = (crest_Of_r9 C v).eval fun y => some (crest_Of_S9 y) := by kernel_rfl
abbrev crest_Of_Y10 : Type := List Diii × Int × Int × List Diii × Int × Int × Int × Int × Int × List Diii × Int × Int × Int × Int × Int
def crest_Of_S10 (v : crest_Of_Y10) : St := ⟨[(2, .ptr 0 0), (3, .ptr 1 0), (8, .ptr 2 0), (10, .rs 3), (11, .ptr 4 0), (12, .ptr 5 0), (47, .fz Riii v.1), (48, .int .i64 v.2.1), (49, .int .i64 v.2.2.1)], [.cells [.fz Riii v.2.2.2.1], .cells [.int .i64 v.2.2.2.2.1, .int .i64 v.2.2.2.2.2.1], .cells [.int .i64 v.2.2.2.2.2.2.1, .int .i64 v.2.2.2.2.2.2.2.1, .int .i64 v.2.2.2.2.2.2.2.2.1], .rows Riii v.2.2.2.2.2.2.2.2.2.1, .cells [.int .i64 v.2.2.2.2.2.2.2.2.2.2.1, .int .i64 v.2.2.2.2.2.2.2.2.2.2.2.1, .int .i64 v.2.2.2.2.2.2.2.2.2.2.2.2.1], .cells [.int .i64 v.2.2.2.2.2.2.2.2.2.2.2.2.2.1, .int .i64 v.2.2.2.2.2.2.2.2.2.2.2.2.2.2]]⟩
def crest_Of_r10 (C : crest_Of_C) (v : crest_Of_Y9) : Dt crest_Of_Y10 := (Dt.ret (v.1, (List.length v.1 : Int), (0:Int), v.1, v.2.1, v.2.2.1, v.2.2.2.1, v.2.2.2.2.1, v.2.2.2.2.2.1, v.2.2.2.2.2.2.1, v.2.2.2.2.2.2.2.1, v.2.2.2.2.2.2.2.2.1, v.2.2.2.2.2.2.2.2.2.1, v.2.2.2.2.2.2.2.2.2.2.1, v.2.2.2.2.2.2.2.2.2.2.2))
theorem crest_Of_g10 (C : crest_Of_C) (v : crest_Of_Y9) : treg tysT (orc (crest_Of_tab C)) 101 (regO (bodyOf f14) 10) false [(2, (.box [.val Riii])), (3, .any), (8, .any), (10, (.own Riii)), (11, .any), (12, .any), (47, (.val Riii)), (48, .any), (49, .any)] (crest_Of_S9 v) some = (crest_Of_r10 C v).eval fun y => some (crest_Of_S10 y) := by kernel_rfl
abbrev crest_Of_Y11 : Type := List Diii × Int × Int × Bool × List Diii × Int × Int × Int × Int × Int × List Diii × Int × Int × Int × Int × Int
def crest_Of_S11 (v : crest_Of_Y11) : St := ⟨[(2, .ptr 0 0), (3, .ptr 1 0), (8, .ptr 2 0), (10, .rs 3), (11, .ptr 4 0), (12, .ptr 5 0), (47, .fz Riii v.1), (48, .int .i64 v.2.1), (49, .int .i64 v.2.2.1), (50, .bool v.2.2.2.1)], [.cells [.fz Riii v.2.2.2.2.1], .cells [.int .i64 v.2.2.2.2.2.1, .int .i64 v.2.2.2.2.2.2.1], .cells [.int .i64 v.2.2.2.2.2.2.2.1, .int .i64 v.2.2.2.2.2.2.2.2.1, .int .i64 v.2.2.2.2.2.2.2.2.2.1], .rows Riii v.2.2.2.2.2.2.2.2.2.2.1, .cells [.int .i64 v.2.2.2.2.2.2.2.2.2.2.2.1, .int .i64 v.2.2.2.2.2.2.2.2.2.2.2.2.1, .int .i64 v.2.2.2.2.2.2.2.2.2.2.2.2.2.1], .cells [.int .i64 v.2.2.2.2.2.2.2.2.2.2.2.2.2.2.1, .int .i64 v.2.2.2.2.2.2.2.2.2.2.2.2.2.2.2]]⟩
def crest_Of_r11 (C : crest_Of_C) (v : crest_Of_Y10) : Dt crest_Of_Y11 := (Dt.ret (v.1, v.2.1, v.2.2.1, (decide (v.2.2.1 < v.2.1)), v.2.2.2.1, v.2.2.2.2.1, v.2.2.2.2.2.1, v.2.2.2.2.2.2.1, v.2.2.2.2.2.2.2.1, v.2.2.2.2.2.2.2.2.1, v.2.2.2.2.2.2.2.2.2.1, v.2.2.2.2.2.2.2.2.2.2.1, v.2.2.2.2.2.2.2.2.2.2.2.1, v.2.2.2.2.2.2.2.2.2.2.2.2.1, v.2.2.2.2.2.2.2.2.2.2.2.2.2.1, v.2.2.2.2.2.2.2.2.2.2.2.2.2.2))
theorem crest_Of_g11 (C : crest_Of_C) (v : crest_Of_Y10) : treg tysT (orc (crest_Of_tab C)) 101 (regO (bodyOf f14) 11) false [(2, (.box [.val Riii])), (3, .any), (8, .any), (10, (.own Riii)), (11, .any), (12, .any), (47, (.val Riii)), (48, .any), (49, .any), (50, .any)] (crest_Of_S10 v) some = (crest_Of_r11 C v).eval fun y => some (crest_Of_S11 y) := by kernel_rfl
abbrev crest_Of_Y12 : Type := List Diii × Int × Int × List Diii × Int × Int × Int × Int × Int × List Diii × Int × Int × Int × Int × Int × Int × Int × Int
def crest_Of_S12 (v : crest_Of_Y12) : St := ⟨[(2, .ptr 0 0), (3, .ptr 1 0), (8, .ptr 2 0), (10, .rs 3), (11, .ptr 4 0), (12, .ptr 5 0), (14, .ptr 6 0), (47, .fz Riii v.1), (48, .int .i64 v.2.1), (49, .int .i64 v.2.2.1)], [.cells [.fz Riii v.2.2.2.1], .cells [.int .i64 v.2.2.2.2.1, .int .i64 v.2.2.2.2.2.1], .cells [.int .i64 v.2.2.2.2.2.2.1, .int .i64 v.2.2.2.2.2.2.2.1, .int .i64 v.2.2.2.2.2.2.2.2.1], .rows Riii v.2.2.2.2.2.2.2.2.2.1, .cells [.int .i64 v.2.2.2.2.2.2.2.2.2.2.1, .int .i64 v.2.2.2.2.2.2.2.2.2.2.2.1, .int .i64 v.2.2.2.2.2.2.2.2.2.2.2.2.1], .cells [.int .i64 v.2.2.2.2.2.2.2.2.2.2.2.2.2.1, .int .i64 v.2.2.2.2.2.2.2.2.2.2.2.2.2.2.1], .cells [.int .i64 v.2.2.2.2.2.2.2.2.2.2.2.2.2.2.2.1, .int .i64 v.2.2.2.2.2.2.2.2.2.2.2.2.2.2.2.2.1, .int .i64 v.2.2.2.2.2.2.2.2.2.2.2.2.2.2.2.2.2]]⟩
def crest_Of_r12 (C : crest_Of_C) (v : crest_Of_Y11) : Dt crest_Of_Y12 := (Dt.ite (inB v.2.2.1 (List.length v.1)) (Dt.ret (v.1, v.2.1, v.2.2.1, v.2.2.2.2.1, v.2.2.2.2.2.1, v.2.2.2.2.2.2.1, v.2.2.2.2.2.2.2.1, v.2.2.2.2.2.2.2.2.1, v.2.2.2.2.2.2.2.2.2.1, v.2.2.2.2.2.2.2.2.2.2.1, v.2.2.2.2.2.2.2.2.2.2.2.1, v.2.2.2.2.2.2.2.2.2.2.2.2.1, v.2.2.2.2.2.2.2.2.2.2.2.2.2.1, v.2.2.2.2.2.2.2.2.2.2.2.2.2.2.1, v.2.2.2.2.2.2.2.2.2.2.2.2.2.2.2, (elt ziii v.1 (v.2.2.1).toNat).1, (elt ziii v.1 (v.2.2.1).toNat).2.1, (elt ziii v.1 (v.2.2.1).toNat).2.2.1)) Dt.fail)
theorem crest_Of_g12 (C : crest_Of_C) (v : crest_Of_Y11) : treg tysT (orc (crest_Of_tab C)) 101 (regO (bodyOf f14) 12) false [(2, (.box [.val Riii])), (3, .any), (8, .any), (10, (.own Riii)), (11, .any), (12, .any), (14, .any), (47, (.val Riii)), (48, .any), (49, .any)] (crest_Of_S11 v) some = (crest_Of_r12 C v).eval fun y => some (crest_Of_S12 y) := by kernel_rfl
abbrev crest_Of_Y13 : Type := Bool × Int × List Diii × Int × Int × List Diii × Int × Int × Int × Int × Int × List Diii × Int × Int × Int × Int × Int × Int × Int × Int × Int × Int
def crest_Of_S13 (v : crest_Of_Y13) : St := ⟨[(2, .ptr 0 0), (3, .ptr 1 0), (8, .ptr 2 0), (10, .rs 3), (11, .ptr 4 0), (12, .ptr 5 0), (14, .ptr 6 0), (15, .ptr 7 0), (16, .bool v.1), (17, .int .i64 v.2.1), (47, .fz Riii v.2.2.1), (48, .int .i64 v.2.2.2.1), (49, .int .i64 v.2.2.2.2.1)], [.cells [.fz Riii v.2.2.2.2.2.1], .cells [.int .i64 v.2.2.2.2.2.2.1, .int .i64 v.2.2.2.2.2.2.2.1], .cells [.int .i64 v.2.2.2.2.2.2.2.2.1, .int .i64 v.2.2.2.2.2.2.2.2.2.1, .int .i64 v.2.2.2.2.2.2.2.2.2.2.1], .rows Riii v.2.2.2.2.2.2.2.2.2.2.2.1, .cells [.int .i64 v.2.2.2.2.2.2.2.2.2.2.2.2.1, .int .i64 v.2.2.2.2.2.2.2.2.2.2.2.2.2.1, .int .i64 v.2.2.2.2.2.2.2.2.2.2.2.2.2.2.1], .cells [.int .i64 v.2.2.2.2.2.2.2.2.2.2.2.2.2.2.2.1, .int .i64 v.2.2.2.2.2.2.2.2.2.2.2.2.2.2.2.2.1], .cells [.int .i64 v.2.2.2.2.2.2.2.2.2.2.2.2.2.2.2.2.2.1, .int .i64 v.2.2.2.2.2.2.2.2.2.2.2.2.2.2.2.2.2.2.1, .int .i64 v.2.2.2.2.2.2.2.2.2.2.2.2.2.2.2.2.2.2.2.1], .cells [.int .i64 v.2.2.2.2.2.2.2.2.2.2.2.2.2.2.2.2.2.2.2.2.1, .int .i64 v.2.2.2.2.2.2.2.2.2.2.2.2.2.2.2.2.2.2.2.2.2]]⟩
def crest_Of_r13 (C : crest_Of_C) (v : crest_Of_Y12) : Dt crest_Of_Y13 := (Dt.bnd (C.2.2.1 ((v.2.2.2.2.2.2.1, v.2.2.2.2.2.2.2.1, v.2.2.2.2.2.2.2.2.1, ()), (v.2.2.2.2.2.2.2.2.2.2.2.2.2.2.2.1, v.2.2.2.2.2.2.2.2.2.2.2.2.2.2.2.2.1, v.2.2.2.2.2.2.2.2.2.2.2.2.2.2.2.2.2, ()), (v.2.2.2.2.1, v.2.2.2.2.2.1, ()), ())) fun r1 => (Dt.ret (r1.2.2.1, r1.2.2.2, v.1, v.2.1, v.2.2.1, v.2.2.2.1, v.2.2.2.2.1, v.2.2.2.2.2.1, v.2.2.2.2.2.2.1, v.2.2.2.2.2.2.2.1, v.2.2.2.2.2.2.2.2.1, v.2.2.2.2.2.2.2.2.2.1, v.2.2.2.2.2.2.2.2.2.2.1, v.2.2.2.2.2.2.2.2.2.2.2.1, v.2.2.2.2.2.2.2.2.2.2.2.2.1, v.2.2.2.2.2.2.2.2.2.2.2.2.2.1, v.2.2.2.2.2.2.2.2.2.2.2.2.2.2.1, v.2.2.2.2.2.2.2.2.2.2.2.2.2.2.2.1, v.2.2.2.2.2.2.2.2.2.2.2.2.2.2.2.2.1, v.2.2.2.2.2.2.2.2.2.2.2.2.2.2.2.2.2, r1.1, r1.2.1)))
theorem crest_Of_g13 (C : crest_Of_C) (v : crest_Of_Y12) : treg tysT (orc (crest_Of_tab C)) 101 (regO (bodyOf f14) 13) false [(2, (.box [.val Riii])), (3, .any), (8, .any), (10, (.own Riii)), (11, .any), (12, .any), (14, .any), (15, .any), (16, .any), (17, .any), (47, (.val Riii)), (48, .any), (49, .any)] (crest_Of_S12 v) some = (crest_Of_r13 C v).eval fun y => some (crest_Of_S13 y) := by kernel_rfl
abbrev crest_Of_Y14 : Type := List Diii × Int × Int × Bool × List Diii × Int × Int × Int × Int × Int × List Diii × Int × Int × Int × Int × Int × Int × Int × Int × Int × Int
def crest_Of_S14 (v : crest_Of_Y14) : St := ⟨[(2, .ptr 0 0), (3, .ptr 1 0), (8, .ptr 2 0), (10, .rs 3), (11, .ptr 4 0), (12, .ptr 5 0), (14, .ptr 6 0), (15, .ptr 7 0), (47, .fz Riii v.1), (48, .int .i64 v.2.1), (49, .int .i64 v.2.2.1), (66, .bool v.2.2.2.1)], [.cells [.fz Riii v.2.2.2.2.1], .cells [.int .i64 v.2.2.2.2.2.1, .int .i64 v.2.2.2.2.2.2.1], .cells [.int .i64 v.2.2.2.2.2.2.2.1, .int .i64 v.2.2.2.2.2.2.2.2.1, .int .i64 v.2.2.2.2.2.2.2.2.2.1], .rows Riii v.2.2.2.2.2.2.2.2.2.2.1, .cells [.int .i64 v.2.2.2.2.2.2.2.2.2.2.2.1, .int .i64 v.2.2.2.2.2.2.2.2.2.2.2.2.1, .int .i64 v.2.2.2.2.2.2.2.2.2.2.2.2.2.1], .cells [.int .i64 v.2.2.2.2.2.2.2.2.2.2.2.2.2.2.1, .int .i64 v.2.2.2.2.2.2.2.2.2.2.2.2.2.2.2.1], .cells [.int .i64 v.2.2.2.2.2.2.2.2.2.2.2.2.2.2.2.2.1, .int .i64 v.2.2.2.2.2.2.2.2.2.2.2.2.2.2.2.2.2.1, .int .i64 v.2.2.2.2.2.2.2.2.2.2.2.2.2.2.2.2.2.2.1], .cells [.int .i64 v.2.2.2.2.2.2.2.2.2.2.2.2.2.2.2.2.2.2.2.1, .int .i64 v.2.2.2.2.2.2.2.2.2.2.2.2.2.2.2.2.2.2.2.2]]⟩
def crest_Of_r14 (C : crest_Of_C) (v : crest_Of_Y13) : Dt crest_Of_Y14 := (Dt.ite (v.2.1 != (0:Int)) (Dt.ret (v.2.2.1, v.2.2.2.1, v.2.2.2.2.1, true, v.2.2.2.2.2.1, v.2.2.2.2.2.2.1, v.2.2.2.2.2.2.2.1, v.2.2.2.2.2.2.2.2.1, v.2.2.2.2.2.2.2.2.2.1, v.2.2.2.2.2.2.2.2.2.2.1, v.2.2.2.2.2.2.2.2.2.2.2.1, v.2.2.2.2.2.2.2.2.2.2.2.2.1, v.2.2.2.2.2.2.2.2.2.2.2.2.2.1, v.2.2.2.2.2.2.2.2.2.2.2.2.2.2.1, v.2.2.2.2.2.2.2.2.2.2.2.2.2.2.2.1, v.2.2.2.2.2.2.2.2.2.2.2.2.2.2.2.2.1, v.2.2.2.2.2.2.2.2.2.2.2.2.2.2.2.2.2.1, v.2.2.2.2.2.2.2.2.2.2.2.2.2.2.2.2.2.2.1, v.2.2.2.2.2.2.2.2.2.2.2.2.2.2.2.2.2.2.2.1, v.2.2.2.2.2.2.2.2.2.2.2.2.2.2.2.2.2.2.2.2.1, v.2.2.2.2.2.2.2.2.2.2.2.2.2.2.2.2.2.2.2.2.2)) (Dt.ret (v.2.2.1, v.2.2.2.1, v.2.2.2.2.1, (!v.1), v.2.2.2.2.2.1, v.2.2.2.2.2.2.1, v.2.2.2.2.2.2.2.1, v.2.2.2.2.2.2.2.2.1, v.2.2.2.2.2.2.2.2.2.1, v.2.2.2.2.2.2.2.2.2.2.1, v.2.2.2.2.2.2.2.2.2.2.2.1, v.2.2.2.2.2.2.2.2.2.2.2.2.1, v.2.2.2.2.2.2.2.2.2.2.2.2.2.1, v.2.2.2.2.2.2.2.2.2.2.2.2.2.2.1, v.2.2.2.2.2.2.2.2.2.2.2.2.2.2.2.1, v.2.2.2.2.2.2.2.2.2.2.2.2.2.2.2.2.1, v.2.2.2.2.2.2.2.2.2.2.2.2.2.2.2.2.2.1, v.2.2.2.2.2.2.2.2.2.2.2.2.2.2.2.2.2.2.1, v.2.2.2.2.2.2.2.2.2.2.2.2.2.2.2.2.2.2.2.1, v.2.2.2.2.2.2.2.2.2.2.2.2.2.2.2.2.2.2.2.2.1, v.2.2.2.2.2.2.2.2.2.2.2.2.2.2.2.2.2.2.2.2.2)))
theorem crest_Of_g14 (C : crest_Of_C) (v : crest_Of_Y13) : treg tysT (orc (crest_Of_tab C)) 101 (regO (bodyOf f14) 14) false [(2, (.box [.val Riii])), (3, .any), (8, .any), (10, (.own Riii)), (11, .any), (12, .any), (14, .any), (15, .any), (47, (.val Riii)), (48, .any), (49, .any), (66, .any)] (crest_Of_S13 v) some = (crest_Of_r14 C v).eval fun y => some (crest_Of_S14 y) := by kernel_rfl
def crest_Of_r24 (C : crest_Of_C) (v : crest_Of_Y10) : Dt crest_Of_Y10 := (Dt.ret (v.1, v.2.1, (IntKind.wrap .i64 (v.2.2.1 + (1:Int))), v.2.2.2.1, v.2.2.2.2.1, v.2.2.2.2.2.1, v.2.2.2.2.2.2.1, v.2.2.2.2.2.2.2.1, v.2.2.2.2.2.2.2.2.1, v.2.2.2.2.2.2.2.2.2.1, v.2.2.2.2.2.2.2.2.2.2.1, v.2.2.2.2.2.2.2.2.2.2.2.1, v.2.2.2.2.2.2.2.2.2.2.2.2.1, v.2.2.2.2.2.2.2.2.2.2.2.2.2.1, v.2.2.2.2.2.2.2.2.2.2.2.2.2.2))
theorem crest_Of_g24 (C : crest_Of_C) (v : crest_Of_Y10) : treg tysT (orc (crest_Of_tab C)) 101 (regO (bodyOf f14) 24) false [(2, (.box [.val Riii])), (3, .any), (8, .any), (10, (.own Riii)), (11, .any), (12, .any), (47, (.val Riii)), (48, .any), (49, .any)] (crest_Of_S10 v) some = (crest_Of_r24 C v).eval fun y => some (crest_Of_S10 y) := by kernel_rfl
def crest_Of_J3  (d : Nat) (self1 : (List Diii × Int × Int × Int × Int × Int × List Diii) → Option crest_Of_R) (self2 : (List Diii × Int × Int × List Diii × Int × Int × Int × Int × Int × List Diii × Int × Int × Int × Int × Int) → Option crest_Of_R) (z : List Diii × Int × Int × List Diii × Int × Int × Int × Int × Int × List Diii × Int × Int × Int × Int × Int) : Option (crest_Of_R) :=
  (crest_Of_r24 (crest_Of_K d) z).eval fun y24 =>
  self2 y24
abbrev crest_Of_Y15 : Type := Int × List Diii × Int × Int × List Diii × Int × Int × Int × Int × Int × List Diii × Int × Int × Int × Int × Int × Int × Int × Int × Int × Int
def crest_Of_S15 (v : crest_Of_Y15) : St := ⟨[(2, .ptr 0 0), (3, .ptr 1 0), (8, .ptr 2 0), (10, .rs 3), (11, .ptr 4 0), (12, .ptr 5 0), (14, .ptr 6 0), (15, .ptr 7 0), (18, .int .i64 v.1), (47, .fz Riii v.2.1), (48, .int .i64 v.2.2.1), (49, .int .i64 v.2.2.2.1)], [.cells [.fz Riii v.2.2.2.2.1], .cells [.int .i64 v.2.2.2.2.2.1, .int .i64 v.2.2.2.2.2.2.1], .cells [.int .i64 v.2.2.2.2.2.2.2.1, .int .i64 v.2.2.2.2.2.2.2.2.1, .int .i64 v.2.2.2.2.2.2.2.2.2.1], .rows Riii v.2.2.2.2.2.2.2.2.2.2.1, .cells [.int .i64 v.2.2.2.2.2.2.2.2.2.2.2.1, .int .i64 v.2.2.2.2.2.2.2.2.2.2.2.2.1, .int .i64 v.2.2.2.2.2.2.2.2.2.2.2.2.2.1], .cells [.int .i64 v.2.2.2.2.2.2.2.2.2.2.2.2.2.2.1, .int .i64 v.2.2.2.2.2.2.2.2.2.2.2.2.2.2.2.1], .cells [.int .i64 v.2.2.2.2.2.2.2.2.2.2.2.2.2.2.2.2.1, .int .i64 v.2.2.2.2.2.2.2.2.2.2.2.2.2.2.2.2.2.1, .int .i64 v.2.2.2.2.2.2.2.2.2.2.2.2.2.2.2.2.2.2.1], .cells [.int .i64 v.2.2.2.2.2.2.2.2.2.2.2.2.2.2.2.2.2.2.2.1, .int .i64 v.2.2.2.2.2.2.2.2.2.2.2.2.2.2.2.2.2.2.2.2]]⟩
def crest_Of_r15 (C : crest_Of_C) (v : crest_Of_Y14) : Dt crest_Of_Y15 := (Dt.ret ((-1:Int), v.1, v.2.1, v.2.2.1, v.2.2.2.2.1, v.2.2.2.2.2.1, v.2.2.2.2.2.2.1, v.2.2.2.2.2.2.2.1, v.2.2.2.2.2.2.2.2.1, v.2.2.2.2.2.2.2.2.2.1, v.2.2.2.2.2.2.2.2.2.2.1, v.2.2.2.2.2.2.2.2.2.2.2.1, v.2.2.2.2.2.2.2.2.2.2.2.2.1, v.2.2.2.2.2.2.2.2.2.2.2.2.2.1, v.2.2.2.2.2.2.2.2.2.2.2.2.2.2.1, v.2.2.2.2.2.2.2.2.2.2.2.2.2.2.2.1, v.2.2.2.2.2.2.2.2.2.2.2.2.2.2.2.2.1, v.2.2.2.2.2.2.2.2.2.2.2.2.2.2.2.2.2.1, v.2.2.2.2.2.2.2.2.2.2.2.2.2.2.2.2.2.2.1, v.2.2.2.2.2.2.2.2.2.2.2.2.2.2.2.2.2.2.2.1, v.2.2.2.2.2.2.2.2.2.2.2.2.2.2.2.2.2.2.2.2))
theorem crest_Of_g15 (C : crest_Of_C) (v : crest_Of_Y14) : treg tysT (orc (crest_Of_tab C)) 101 (regO (bodyOf f14) 15) false [(2, (.box [.val Riii])), (3, .any), (8, .any), (10, (.own Riii)), (11, .any), (12, .any), (14, .any), (15, .any), (18, .any), (47, (.val Riii)), (48, .any), (49, .any)] (crest_Of_S14 v) some = (crest_Of_r15 C v).eval fun y => some (crest_Of_S15 y) := by kernel_rfl
abbrev crest_Of_Y16 : Type := Int × List Diii × Int × Int × Bool × List Diii × Int × Int × Int × Int × Int × List Diii × Int × Int × Int × Int × Int × Int × Int × Int × Int × Int
def crest_Of_S16 (v : crest_Of_Y16) : St := ⟨[(2, .ptr 0 0), (3, .ptr 1 0), (8, .ptr 2 0), (10, .rs 3), (11, .ptr 4 0), (12, .ptr 5 0), (14, .ptr 6 0), (15, .ptr 7 0), (18, .int .i64 v.1), (47, .fz Riii v.2.1), (48, .int .i64 v.2.2.1), (49, .int .i64 v.2.2.2.1), (69, .bool v.2.2.2.2.1)], [.cells [.fz Riii v.2.2.2.2.2.1], .cells [.int .i64 v.2.2.2.2.2.2.1, .int .i64 v.2.2.2.2.2.2.2.1], .cells [.int .i64 v.2.2.2.2.2.2.2.2.1, .int .i64 v.2.2.2.2.2.2.2.2.2.1, .int .i64 v.2.2.2.2.2.2.2.2.2.2.1], .rows Riii v.2.2.2.2.2.2.2.2.2.2.2.1, .cells [.int .i64 v.2.2.2.2.2.2.2.2.2.2.2.2.1, .int .i64 v.2.2.2.2.2.2.2.2.2.2.2.2.2.1, .int .i64 v.2.2.2.2.2.2.2.2.2.2.2.2.2.2.1], .cells [.int .i64 v.2.2.2.2.2.2.2.2.2.2.2.2.2.2.2.1, .int .i64 v.2.2.2.2.2.2.2.2.2.2.2.2.2.2.2.2.1], .cells [.int .i64 v.2.2.2.2.2.2.2.2.2.2.2.2.2.2.2.2.2.1, .int .i64 v.2.2.2.2.2.2.2.2.2.2.2.2.2.2.2.2.2.2.1, .int .i64 v.2.2.2.2.2.2.2.2.2.2.2.2.2.2.2.2.2.2.2.1], .cells [.int .i64 v.2.2.2.2.2.2.2.2.2.2.2.2.2.2.2.2.2.2.2.2.1, .int .i64 v.2.2.2.2.2.2.2.2.2.2.2.2.2.2.2.2.2.2.2.2.2]]⟩
def crest_Of_r16 (C : crest_Of_C) (v : crest_Of_Y15) : Dt crest_Of_Y16 := (Dt.ret (v.1, v.2.1, v.2.2.1, v.2.2.2.1, (decide (v.2.2.2.2.2.2.2.2.2.2.2.2.2.2.2.1 > (0:Int))), v.2.2.2.2.1, v.2.2.2.2.2.1, v.2.2.2.2.2.2.1, v.2.2.2.2.2.2.2.1, v.2.2.2.2.2.2.2.2.1, v.2.2.2.2.2.2.2.2.2.1, v.2.2.2.2.2.2.2.2.2.2.1, v.2.2.2.2.2.2.2.2.2.2.2.1, v.2.2.2.2.2.2.2.2.2.2.2.2.1, v.2.2.2.2.2.2.2.2.2.2.2.2.2.1, v.2.2.2.2.2.2.2.2.2.2.2.2.2.2.1, v.2.2.2.2.2.2.2.2.2.2.2.2.2.2.2.1, v.2.2.2.2.2.2.2.2.2.2.2.2.2.2.2.2.1, v.2.2.2.2.2.2.2.2.2.2.2.2.2.2.2.2.2.1, v.2.2.2.2.2.2.2.2.2.2.2.2.2.2.2.2.2.2.1, v.2.2.2.2.2.2.2.2.2.2.2.2.2.2.2.2.2.2.2.1, v.2.2.2.2.2.2.2.2.2.2.2.2.2.2.2.2.2.2.2.2))
theorem crest_Of_g16 (C : crest_Of_C) (v : crest_Of_Y15) : treg tysT (orc (crest_Of_tab C)) 101 (regO (bodyOf f14) 16) false [(2, (.box [.val Riii])), (3, .any), (8, .any), (10, (.own Riii)), (11, .any), (12, .any), (14, .any), (15, .any), (18, .any), (47, (.val Riii)), (48, .any), (49, .any), (69, .any)] (crest_Of_S15 v) some = (crest_Of_r16 C v).eval fun y => some (crest_Of_S16 y) := by kernel_rfl
def crest_Of_r17 (C : crest_Of_C) (v : crest_Of_Y16) : Dt crest_Of_Y15 := (Dt.bnd (C.2.2.2.1 ((v.2.2.2.2.2.2.2.2.2.2.2.2.2.2.2.2.2.2.2.2.1, v.2.2.2.2.2.2.2.2.2.2.2.2.2.2.2.2.2.2.2.2.2, ()), (v.2.2.2.2.2.2.2.2.2.2.2.2.2.2.2.1, v.2.2.2.2.2.2.2.2.2.2.2.2.2.2.2.2.1, ()), ())) fun r1 => (Dt.ret (r1, v.2.1, v.2.2.1, v.2.2.2.1, v.2.2.2.2.2.1, v.2.2.2.2.2.2.1, v.2.2.2.2.2.2.2.1, v.2.2.2.2.2.2.2.2.1, v.2.2.2.2.2.2.2.2.2.1, v.2.2.2.2.2.2.2.2.2.2.1, v.2.2.2.2.2.2.2.2.2.2.2.1, v.2.2.2.2.2.2.2.2.2.2.2.2.1, v.2.2.2.2.2.2.2.2.2.2.2.2.2.1, v.2.2.2.2.2.2.2.2.2.2.2.2.2.2.1, v.2.2.2.2.2.2.2.2.2.2.2.2.2.2.2.1, v.2.2.2.2.2.2.2.2.2.2.2.2.2.2.2.2.1, v.2.2.2.2.2.2.2.2.2.2.2.2.2.2.2.2.2.1, v.2.2.2.2.2.2.2.2.2.2.2.2.2.2.2.2.2.2.1, v.2.2.2.2.2.2.2.2.2.2.2.2.2.2.2.2.2.2.2.1, v.2.2.2.2.2.2.2.2.2.2.2.2.2.2.2.2.2.2.2.2.1, v.2.2.2.2.2.2.2.2.2.2.2.2.2.2.2.2.2.2.2.2.2)))
theorem crest_Of_g17 (C : crest_Of_C) (v : crest_Of_Y16) : treg tysT (orc (crest_Of_tab C)) 101 (regO (bodyOf f14) 17) false [(2, (.box [.val Riii])), (3, .any), (8, .any), (10, (.own Riii)), (11, .any), (12, .any), (14, .any), (15, .any), (18, .any), (47, (.val Riii)), (48, .any), (49, .any)] (crest_Of_S16 v) some = (crest_Of_r17 C v).eval fun y => some (crest_Of_S15 y) := by kernel_rfl
abbrev crest_Of_Y18 : Type := Int × List Diii × Int × Int × Bool × List Diii × Int × Int × Int × Int × Int × List Diii × Int × Int × Int × Int × Int × Int × Int × Int × Int × Int
def crest_Of_S18 (v : crest_Of_Y18) : St := ⟨[(2, .ptr 0 0), (3, .ptr 1 0), (8, .ptr 2 0), (10, .rs 3), (11, .ptr 4 0), (12, .ptr 5 0), (14, .ptr 6 0), (15, .ptr 7 0), (18, .int .i64 v.1), (47, .fz Riii v.2.1), (48, .int .i64 v.2.2.1), (49, .int .i64 v.2.2.2.1), (74, .bool v.2.2.2.2.1)], [.cells [.fz Riii v.2.2.2.2.2.1], .cells [.int .i64 v.2.2.2.2.2.2.1, .int .i64 v.2.2.2.2.2.2.2.1], .cells [.int .i64 v.2.2.2.2.2.2.2.2.1, .int .i64 v.2.2.2.2.2.2.2.2.2.1, .int .i64 v.2.2.2.2.2.2.2.2.2.2.1], .rows Riii v.2.2.2.2.2.2.2.2.2.2.2.1, .cells [.int .i64 v.2.2.2.2.2.2.2.2.2.2.2.2.1, .int .i64 v.2.2.2.2.2.2.2.2.2.2.2.2.2.1, .int .i64 v.2.2.2.2.2.2.2.2.2.2.2.2.2.2.1], .cells [.int .i64 v.2.2.2.2.2.2.2.2.2.2.2.2.2.2.2.1, .int .i64 v.2.2.2.2.2.2.2.2.2.2.2.2.2.2.2.2.1], .cells [.int .i64 v.2.2.2.2.2.2.2.2.2.2.2.2.2.2.2.2.2.1, .int .i64 v.2.2.2.2.2.2.2.2.2.2.2.2.2.2.2.2.2.2.1, .int .i64 v.2.2.2.2.2.2.2.2.2.2.2.2.2.2.2.2.2.2.2.1], .cells [.int .i64 v.2.2.2.2.2.2.2.2.2.2.2.2.2.2.2.2.2.2.2.2.1, .int .i64 v.2.2.2.2.2.2.2.2.2.2.2.2.2.2.2.2.2.2.2.2.2]]⟩
def crest_Of_r18 (C : crest_Of_C) (v : crest_Of_Y15) : Dt crest_Of_Y18 := (Dt.ret (v.1, v.2.1, v.2.2.1, v.2.2.2.1, (v.1 == (0:Int)), v.2.2.2.2.1, v.2.2.2.2.2.1, v.2.2.2.2.2.2.1, v.2.2.2.2.2.2.2.1, v.2.2.2.2.2.2.2.2.1, v.2.2.2.2.2.2.2.2.2.1, v.2.2.2.2.2.2.2.2.2.2.1, v.2.2.2.2.2.2.2.2.2.2.2.1, v.2.2.2.2.2.2.2.2.2.2.2.2.1, v.2.2.2.2.2.2.2.2.2.2.2.2.2.1, v.2.2.2.2.2.2.2.2.2.2.2.2.2.2.1, v.2.2.2.2.2.2.2.2.2.2.2.2.2.2.2.1, v.2.2.2.2.2.2.2.2.2.2.2.2.2.2.2.2.1, v.2.2.2.2.2.2.2.2.2.2.2.2.2.2.2.2.2.1, v.2.2.2.2.2.2.2.2.2.2.2.2.2.2.2.2.2.2.1, v.2.2.2.2.2.2.2.2.2.2.2.2.2.2.2.2.2.2.2.1, v.2.2.2.2.2.2.2.2.2.2.2.2.2.2.2.2.2.2.2.2))
theorem crest_Of_g18 (C : crest_Of_C) (v : crest_Of_Y15) : treg tysT (orc (crest_Of_tab C)) 101 (regO (bodyOf f14) 18) false [(2, (.box [.val Riii])), (3, .any), (8, .any), (10, (.own Riii)), (11, .any), (12, .any), (14, .any), (15, .any), (18, .any), (47, (.val Riii)), (48, .any), (49, .any), (74, .any)] (crest_Of_S15 v) some = (crest_Of_r18 C v).eval fun y => some (crest_Of_S18 y) := by kernel_rfl
abbrev crest_Of_Y19 : Type := Int × Bool × List Diii × Int × Int × List Diii × Int × Int × Int × Int × Int × List Diii × Int × Int × Int × Int × Int × Int × Int × Int × Int × Int
def crest_Of_S19 (v : crest_Of_Y19) : St := ⟨[(2, .ptr 0 0), (3, .ptr 1 0), (8, .ptr 2 0), (10, .rs 3), (11, .ptr 4 0), (12, .ptr 5 0), (14, .ptr 6 0), (15, .ptr 7 0), (18, .int .i64 v.1), (19, .bool v.2.1), (47, .fz Riii v.2.2.1), (48, .int .i64 v.2.2.2.1), (49, .int .i64 v.2.2.2.2.1)], [.cells [.fz Riii v.2.2.2.2.2.1], .cells [.int .i64 v.2.2.2.2.2.2.1, .int .i64 v.2.2.2.2.2.2.2.1], .cells [.int .i64 v.2.2.2.2.2.2.2.2.1, .int .i64 v.2.2.2.2.2.2.2.2.2.1, .int .i64 v.2.2.2.2.2.2.2.2.2.2.1], .rows Riii v.2.2.2.2.2.2.2.2.2.2.2.1, .cells [.int .i64 v.2.2.2.2.2.2.2.2.2.2.2.2.1, .int .i64 v.2.2.2.2.2.2.2.2.2.2.2.2.2.1, .int .i64 v.2.2.2.2.2.2.2.2.2.2.2.2.2.2.1], .cells [.int .i64 v.2.2.2.2.2.2.2.2.2.2.2.2.2.2.2.1, .int .i64 v.2.2.2.2.2.2.2.2.2.2.2.2.2.2.2.2.1], .cells [.int .i64 v.2.2.2.2.2.2.2.2.2.2.2.2.2.2.2.2.2.1, .int .i64 v.2.2.2.2.2.2.2.2.2.2.2.2.2.2.2.2.2.2.1, .int .i64 v.2.2.2.2.2.2.2.2.2.2.2.2.2.2.2.2.2.2.2.1], .cells [.int .i64 v.2.2.2.2.2.2.2.2.2.2.2.2.2.2.2.2.2.2.2.2.1, .int .i64 v.2.2.2.2.2.2.2.2.2.2.2.2.2.2.2.2.2.2.2.2.2]]⟩
def crest_Of_r19 (C : crest_Of_C) (v : crest_Of_Y18) : Dt crest_Of_Y19 := (Dt.bnd (C.2.2.2.2.1 ((v.2.2.2.2.2.2.2.2.2.2.2.2.2.2.2.2.2.1, v.2.2.2.2.2.2.2.2.2.2.2.2.2.2.2.2.2.2.1, v.2.2.2.2.2.2.2.2.2.2.2.2.2.2.2.2.2.2.2.1, ()), (v.2.2.2.2.2.2.2.2.2.2.2.2.1, v.2.2.2.2.2.2.2.2.2.2.2.2.2.1, v.2.2.2.2.2.2.2.2.2.2.2.2.2.2.1, ()), (v.2.2.2.2.2.2.2.2.2.2.2.2.2.2.2.2.2.2.2.2.1, v.2.2.2.2.2.2.2.2.2.2.2.2.2.2.2.2.2.2.2.2.2, ()), ())) fun r1 => (Dt.ret (v.1, r1.1, v.2.1, v.2.2.1, v.2.2.2.1, v.2.2.2.2.2.1, v.2.2.2.2.2.2.1, v.2.2.2.2.2.2.2.1, v.2.2.2.2.2.2.2.2.1, v.2.2.2.2.2.2.2.2.2.1, v.2.2.2.2.2.2.2.2.2.2.1, v.2.2.2.2.2.2.2.2.2.2.2.1, v.2.2.2.2.2.2.2.2.2.2.2.2.1, v.2.2.2.2.2.2.2.2.2.2.2.2.2.1, v.2.2.2.2.2.2.2.2.2.2.2.2.2.2.1, v.2.2.2.2.2.2.2.2.2.2.2.2.2.2.2.1, v.2.2.2.2.2.2.2.2.2.2.2.2.2.2.2.2.1, v.2.2.2.2.2.2.2.2.2.2.2.2.2.2.2.2.2.1, v.2.2.2.2.2.2.2.2.2.2.2.2.2.2.2.2.2.2.1, v.2.2.2.2.2.2.2.2.2.2.2.2.2.2.2.2.2.2.2.1, v.2.2.2.2.2.2.2.2.2.2.2.2.2.2.2.2.2.2.2.2.1, v.2.2.2.2.2.2.2.2.2.2.2.2.2.2.2.2.2.2.2.2.2)))
theorem crest_Of_g19 (C : crest_Of_C) (v : crest_Of_Y18) : treg tysT (orc (crest_Of_tab C)) 101 (regO (bodyOf f14) 19) false [(2, (.box [.val Riii])), (3, .any), (8, .any), (10, (.own Riii)), (11, .any), (12, .any), (14, .any), (15, .any), (18, .any), (19, .any), (47, (.val Riii)), (48, .any), (49, .any)] (crest_Of_S18 v) some = (crest_Of_r19 C v).eval fun y => some (crest_Of_S19 y) := by kernel_rfl
abbrev crest_Of_Y20 : Type := Int × List Diii × Int × Int × Bool × List Diii × Int × Int × Int × Int × Int × List Diii × Int × Int × Int × Int × Int × Int × Int × Int × Int × Int
def crest_Of_S20 (v : crest_Of_Y20) : St := ⟨[(2, .ptr 0 0), (3, .ptr 1 0), (8, .ptr 2 0), (10, .rs 3), (11, .ptr 4 0), (12, .ptr 5 0), (14, .ptr 6 0), (15, .ptr 7 0), (18, .int .i64 v.1), (47, .fz Riii v.2.1), (48, .int .i64 v.2.2.1), (49, .int .i64 v.2.2.2.1), (82, .bool v.2.2.2.2.1)], [.cells [.fz Riii v.2.2.2.2.2.1], .cells [.int .i64 v.2.2.2.2.2.2.1, .int .i64 v.2.2.2.2.2.2.2.1], .cells [.int .i64 v.2.2.2.2.2.2.2.2.1, .int .i64 v.2.2.2.2.2.2.2.2.2.1, .int .i64 v.2.2.2.2.2.2.2.2.2.2.1], .rows Riii v.2.2.2.2.2.2.2.2.2.2.2.1, .cells [.int .i64 v.2.2.2.2.2.2.2.2.2.2.2.2.1, .int .i64 v.2.2.2.2.2.2.2.2.2.2.2.2.2.1, .int .i64 v.2.2.2.2.2.2.2.2.2.2.2.2.2.2.1], .cells [.int .i64 v.2.2.2.2.2.2.2.2.2.2.2.2.2.2.2.1, .int .i64 v.2.2.2.2.2.2.2.2.2.2.2.2.2.2.2.2.1], .cells [.int .i64 v.2.2.2.2.2.2.2.2.2.2.2.2.2.2.2.2.2.1, .int .i64 v.2.2.2.2.2.2.2.2.2.2.2.2.2.2.2.2.2.2.1, .int .i64 v.2.2.2.2.2.2.2.2.2.2.2.2.2.2.2.2.2.2.2.1], .cells [.int .i64 v.2.2.2.2.2.2.2.2.2.2.2.2.2.2.2.2.2.2.2.2.1, .int .i64 v.2.2.2.2.2.2.2.2.2.2.2.2.2.2.2.2.2.2.2.2.2]]⟩
def crest_Of_r20 (C : crest_Of_C) (v : crest_Of_Y19) : Dt crest_Of_Y20 := (Dt.ret (v.1, v.2.2.1, v.2.2.2.1, v.2.2.2.2.1, v.2.1, v.2.2.2.2.2.1, v.2.2.2.2.2.2.1, v.2.2.2.2.2.2.2.1, v.2.2.2.2.2.2.2.2.1, v.2.2.2.2.2.2.2.2.2.1, v.2.2.2.2.2.2.2.2.2.2.1, v.2.2.2.2.2.2.2.2.2.2.2.1, v.2.2.2.2.2.2.2.2.2.2.2.2.1, v.2.2.2.2.2.2.2.2.2.2.2.2.2.1, v.2.2.2.2.2.2.2.2.2.2.2.2.2.2.1, v.2.2.2.2.2.2.2.2.2.2.2.2.2.2.2.1, v.2.2.2.2.2.2.2.2.2.2.2.2.2.2.2.2.1, v.2.2.2.2.2.2.2.2.2.2.2.2.2.2.2.2.2.1, v.2.2.2.2.2.2.2.2.2.2.2.2.2.2.2.2.2.2.1, v.2.2.2.2.2.2.2.2.2.2.2.2.2.2.2.2.2.2.2.1, v.2.2.2.2.2.2.2.2.2.2.2.2.2.2.2.2.2.2.2.2.1, v.2.2.2.2.2.2.2.2.2.2.2.2.2.2.2.2.2.2.2.2.2))
theorem crest_Of_g20 (C : crest_Of_C) (v : crest_Of_Y19) : treg tysT (orc (crest_Of_tab C)) 101 (regO (bodyOf f14) 20) false [(2, (.box [.val Riii])), (3, .any), (8, .any), (10, (.own Riii)), (11, .any), (12, .any), (14, .any), (15, .any), (18, .any), (47, (.val Riii)), (48, .any), (49, .any), (82, .any)] (crest_Of_S19 v) some = (crest_Of_r20 C v).eval fun y => some (crest_Of_S20 y) := by kernel_rfl
def crest_Of_r21 (C : crest_Of_C) (v : crest_Of_Y20) : Dt crest_Of_Y15 := (Dt.ret ((-1:Int), v.2.1, v.2.2.1, v.2.2.2.1, v.2.2.2.2.2.1, v.2.2.2.2.2.2.1, v.2.2.2.2.2.2.2.1, v.2.2.2.2.2.2.2.2.1, v.2.2.2.2.2.2.2.2.2.1, v.2.2.2.2.2.2.2.2.2.2.1, v.2.2.2.2.2.2.2.2.2.2.2.1, v.2.2.2.2.2.2.2.2.2.2.2.2.1, v.2.2.2.2.2.2.2.2.2.2.2.2.2.1, v.2.2.2.2.2.2.2.2.2.2.2.2.2.2.1, v.2.2.2.2.2.2.2.2.2.2.2.2.2.2.2.1, v.2.2.2.2.2.2.2.2.2.2.2.2.2.2.2.2.1, v.2.2.2.2.2.2.2.2.2.2.2.2.2.2.2.2.2.1, v.2.2.2.2.2.2.2.2.2.2.2.2.2.2.2.2.2.2.1, v.2.2.2.2.2.2.2.2.2.2.2.2.2.2.2.2.2.2.2.1, v.2.2.2.2.2.2.2.2.2.2.2.2.2.2.2.2.2.2.2.2.1, v.2.2.2.2.2.2.2.2.2.2.2.2.2.2.2.2.2.2.2.2.2))
theorem crest_Of_g21 (C : crest_Of_C) (v : crest_Of_Y20) : treg tysT (orc (crest_Of_tab C)) 101 (regO (bodyOf f14) 21) false [(2, (.box [.val Riii])), (3, .any), (8, .any), (10, (.own Riii)), (11, .any), (12, .any), (14, .any), (15, .any), (18, .any), (47, (.val Riii)), (48, .any), (49, .any)] (crest_Of_S20 v) some = (crest_Of_r21 C v).eval fun y => some (crest_Of_S15 y) := by kernel_rfl
abbrev crest_Of_Y22 : Type := List Diii × Int × Int × Bool × List Diii × Int × Int × Int × Int × Int × List Diii × Int × Int × Int × Int × Int × Int × Int × Int × Int × Int
def crest_Of_S22 (v : crest_Of_Y22) : St := ⟨[(2, .ptr 0 0), (3, .ptr 1 0), (8, .ptr 2 0), (10, .rs 3), (11, .ptr 4 0), (12, .ptr 5 0), (14, .ptr 6 0), (15, .ptr 7 0), (47, .fz Riii v.1), (48, .int .i64 v.2.1), (49, .int .i64 v.2.2.1), (84, .bool v.2.2.2.1)], [.cells [.fz Riii v.2.2.2.2.1], .cells [.int .i64 v.2.2.2.2.2.1, .int .i64 v.2.2.2.2.2.2.1], .cells [.int .i64 v.2.2.2.2.2.2.2.1, .int .i64 v.2.2.2.2.2.2.2.2.1, .int .i64 v.2.2.2.2.2.2.2.2.2.1], .rows Riii v.2.2.2.2.2.2.2.2.2.2.1, .cells [.int .i64 v.2.2.2.2.2.2.2.2.2.2.2.1, .int .i64 v.2.2.2.2.2.2.2.2.2.2.2.2.1, .int .i64 v.2.2.2.2.2.2.2.2.2.2.2.2.2.1], .cells [.int .i64 v.2.2.2.2.2.2.2.2.2.2.2.2.2.2.1, .int .i64 v.2.2.2.2.2.2.2.2.2.2.2.2.2.2.2.1], .cells [.int .i64 v.2.2.2.2.2.2.2.2.2.2.2.2.2.2.2.2.1, .int .i64 v.2.2.2.2.2.2.2.2.2.2.2.2.2.2.2.2.2.1, .int .i64 v.2.2.2.2.2.2.2.2.2.2.2.2.2.2.2.2.2.2.1], .cells [.int .i64 v.2.2.2.2.2.2.2.2.2.2.2.2.2.2.2.2.2.2.2.1, .int .i64 v.2.2.2.2.2.2.2.2.2.2.2.2.2.2.2.2.2.2.2.2]]⟩
def crest_Of_r22 (C : crest_Of_C) (v : crest_Of_Y15) : Dt crest_Of_Y22 := (Dt.ret (v.2.1, v.2.2.1, v.2.2.2.1, (decide (v.1 < (0:Int))), v.2.2.2.2.1, v.2.2.2.2.2.1, v.2.2.2.2.2.2.1, v.2.2.2.2.2.2.2.1, v.2.2.2.2.2.2.2.2.1, v.2.2.2.2.2.2.2.2.2.1, v.2.2.2.2.2.2.2.2.2.2.1, v.2.2.2.2.2.2.2.2.2.2.2.1, v.2.2.2.2.2.2.2.2.2.2.2.2.1, v.2.2.2.2.2.2.2.2.2.2.2.2.2.1, v.2.2.2.2.2.2.2.2.2.2.2.2.2.2.1, v.2.2.2.2.2.2.2.2.2.2.2.2.2.2.2.1, v.2.2.2.2.2.2.2.2.2.2.2.2.2.2.2.2.1, v.2.2.2.2.2.2.2.2.2.2.2.2.2.2.2.2.2.1, v.2.2.2.2.2.2.2.2.2.2.2.2.2.2.2.2.2.2.1, v.2.2.2.2.2.2.2.2.2.2.2.2.2.2.2.2.2.2.2.1, v.2.2.2.2.2.2.2.2.2.2.2.2.2.2.2.2.2.2.2.2))
theorem crest_Of_g22 (C : crest_Of_C) (v : crest_Of_Y15) : treg tysT (orc (crest_Of_tab C)) 101 (regO (bodyOf f14) 22) false [(2, (.box [.val Riii])), (3, .any), (8, .any), (10, (.own Riii)), (11, .any), (12, .any), (14, .any), (15, .any), (47, (.val Riii)), (48, .any), (49, .any), (84, .any)] (crest_Of_S15 v) some = (crest_Of_r22 C v).eval fun y => some (crest_Of_S22 y) := by kernel_rfl
def crest_Of_r23 (C : crest_Of_C) (v : crest_Of_Y22) : Dt crest_Of_Y10 := (Dt.ret (v.1, v.2.1, v.2.2.1, v.2.2.2.2.1, v.2.2.2.2.2.1, v.2.2.2.2.2.2.1, v.2.2.2.2.2.2.2.1, v.2.2.2.2.2.2.2.2.1, v.2.2.2.2.2.2.2.2.2.1, v.2.2.2.2.2.2.2.2.2.2.1, v.2.2.2.2.2.2.2.2.2.2.2.2.2.2.2.2.1, v.2.2.2.2.2.2.2.2.2.2.2.2.2.2.2.2.2.1, v.2.2.2.2.2.2.2.2.2.2.2.2.2.2.2.2.2.2.1, v.2.2.2.2.2.2.2.2.2.2.2.2.2.2.2.2.2.2.2.1, v.2.2.2.2.2.2.2.2.2.2.2.2.2.2.2.2.2.2.2.2))
theorem crest_Of_g23 (C : crest_Of_C) (v : crest_Of_Y22) : treg tysT (orc (crest_Of_tab C)) 101 (regO (bodyOf f14) 23) true [(2, (.box [.val Riii])), (3, .any), (8, .any), (10, (.own Riii)), (11, .any), (12, .any), (47, (.val Riii)), (48, .any), (49, .any)] (crest_Of_S22 v) some = (crest_Of_r23 C v).eval fun y => some (crest_Of_S10 y) := by kernel_rfl
def crest_Of_J5  (d : Nat) (self1 : (List Diii × Int × Int × Int × Int × Int × List Diii) → Option crest_Of_R) (self2 : (List Diii × Int × Int × List Diii × Int × Int × Int × Int × Int × List Diii × Int × Int × Int × Int × Int) → Option crest_Of_R) (z : Int × List Diii × Int × Int × List Diii × Int × Int × Int × Int × Int × List Diii × Int × Int × Int × Int × Int × Int × Int × Int × Int × Int) : Option (crest_Of_R) :=
  (crest_Of_r22 (crest_Of_K d) z).eval fun y22 =>
  bif y22.2.2.2.1 then ((crest_Of_r23 (crest_Of_K d) y22).eval fun y23 =>
  crest_Of_J3 d self1 self2 y23) else (crest_Of_J3 d self1 self2 (y22.1, y22.2.1, y22.2.2.1, y22.2.2.2.2.1, y22.2.2.2.2.2.1, y22.2.2.2.2.2.2.1, y22.2.2.2.2.2.2.2.1, y22.2.2.2.2.2.2.2.2.1, y22.2.2.2.2.2.2.2.2.2.1, y22.2.2.2.2.2.2.2.2.2.2.1, y22.2.2.2.2.2.2.2.2.2.2.2.1, y22.2.2.2.2.2.2.2.2.2.2.2.2.1, y22.2.2.2.2.2.2.2.2.2.2.2.2.2.1, y22.2.2.2.2.2.2.2.2.2.2.2.2.2.2.1, y22.2.2.2.2.2.2.2.2.2.2.2.2.2.2.2.1))
def crest_Of_J4  (d : Nat) (self1 : (List Diii × Int × Int × Int × Int × Int × List Diii) → Option crest_Of_R) (self2 : (List Diii × Int × Int × List Diii × Int × Int × Int × Int × Int × List Diii × Int × Int × Int × Int × Int) → Option crest_Of_R) (z : Int × List Diii × Int × Int × List Diii × Int × Int × Int × Int × Int × List Diii × Int × Int × Int × Int × Int × Int × Int × Int × Int × Int) : Option (crest_Of_R) :=
  (crest_Of_r18 (crest_Of_K d) z).eval fun y18 =>
  bif y18.2.2.2.2.1 then ((crest_Of_r19 (crest_Of_K d) y18).eval fun y19 =>
  (crest_Of_r20 (crest_Of_K d) y19).eval fun y20 =>
  bif y20.2.2.2.2.1 then ((crest_Of_r21 (crest_Of_K d) y20).eval fun y21 =>
  crest_Of_J5 d self1 self2 y21) else (crest_Of_J5 d self1 self2 (y20.1, y20.2.1, y20.2.2.1, y20.2.2.2.1, y20.2.2.2.2.2.1, y20.2.2.2.2.2.2.1, y20.2.2.2.2.2.2.2.1, y20.2.2.2.2.2.2.2.2.1, y20.2.2.2.2.2.2.2.2.2.1, y20.2.2.2.2.2.2.2.2.2.2.1, y20.2.2.2.2.2.2.2.2.2.2.2.1, y20.2.2.2.2.2.2.2.2.2.2.2.2.1, y20.2.2.2.2.2.2.2.2.2.2.2.2.2.1, y20.2.2.2.2.2.2.2.2.2.2.2.2.2.2.1, y20.2.2.2.2.2.2.2.2.2.2.2.2.2.2.2.1, y20.2.2.2.2.2.2.2.2.2.2.2.2.2.2.2.2.1, y20.2.2.2.2.2.2.2.2.2.2.2.2.2.2.2.2.2.1, y20.2.2.2.2.2.2.2.2.2.2.2.2.2.2.2.2.2.2.1, y20.2.2.2.2.2.2.2.2.2.2.2.2.2.2.2.2.2.2.2.1, y20.2.2.2.2.2.2.2.2.2.2.2.2.2.2.2.2.2.2.2.2.1, y20.2.2.2.2.2.2.2.2.2.2.2.2.2.2.2.2.2.2.2.2.2))) else (crest_Of_J5 d self1 self2 (y18.1, y18.2.1, y18.2.2.1, y18.2.2.2.1, y18.2.2.2.2.2.1, y18.2.2.2.2.2.2.1, y18.2.2.2.2.2.2.2.1, y18.2.2.2.2.2.2.2.2.1, y18.2.2.2.2.2.2.2.2.2.1, y18.2.2.2.2.2.2.2.2.2.2.1, y18.2.2.2.2.2.2.2.2.2.2.2.1, y18.2.2.2.2.2.2.2.2.2.2.2.2.1, y18.2.2.2.2.2.2.2.2.2.2.2.2.2.1, y18.2.2.2.2.2.2.2.2.2.2.2.2.2.2.1, y18.2.2.2.2.2.2.2.2.2.2.2.2.2.2.2.1, y18.2.2.2.2.2.2.2.2.2.2.2.2.2.2.2.2.1, y18.2.2.2.2.2.2.2.2.2.2.2.2.2.2.2.2.2.1, y18.2.2.2.2.2.2.2.2.2.2.2.2.2.2.2.2.2.2.1, y18.2.2.2.2.2.2.2.2.2.2.2.2.2.2.2.2.2.2.2.1, y18.2.2.2.2.2.2.2.2.2.2.2.2.2.2.2.2.2.2.2.2.1, y18.2.2.2.2.2.2.2.2.2.2.2.2.2.2.2.2.2.2.2.2.2))
abbrev crest_Of_Y25 : Type := Bool × List Diii × Int × Int × Int × Int × Int × List Diii × Int × Int × Int × Int × Int
def crest_Of_S25 (v : crest_Of_Y25) : St := ⟨[(2, .ptr 0 0), (3, .ptr 1 0), (8, .ptr 2 0), (10, .rs 3), (11, .ptr 4 0), (12, .ptr 5 0), (90, .bool v.1)], [.cells [.fz Riii v.2.1], .cells [.int .i64 v.2.2.1, .int .i64 v.2.2.2.1], .cells [.int .i64 v.2.2.2.2.1, .int .i64 v.2.2.2.2.2.1, .int .i64 v.2.2.2.2.2.2.1], .rows Riii v.2.2.2.2.2.2.2.1, .cells [.int .i64 v.2.2.2.2.2.2.2.2.1, .int .i64 v.2.2.2.2.2.2.2.2.2.1, .int .i64 v.2.2.2.2.2.2.2.2.2.2.1], .cells [.int .i64 v.2.2.2.2.2.2.2.2.2.2.2.1, .int .i64 v.2.2.2.2.2.2.2.2.2.2.2.2]]⟩
def crest_Of_r25 (C : crest_Of_C) (v : crest_Of_Y11) : Dt crest_Of_Y25 := (Dt.ret ((v.2.2.2.2.2.2.2.2.2.2.2.2.2.2.2 == (0:Int)), v.2.2.2.2.1, v.2.2.2.2.2.1, v.2.2.2.2.2.2.1, v.2.2.2.2.2.2.2.1, v.2.2.2.2.2.2.2.2.1, v.2.2.2.2.2.2.2.2.2.1, v.2.2.2.2.2.2.2.2.2.2.1, v.2.2.2.2.2.2.2.2.2.2.2.1, v.2.2.2.2.2.2.2.2.2.2.2.2.1, v.2.2.2.2.2.2.2.2.2.2.2.2.2.1, v.2.2.2.2.2.2.2.2.2.2.2.2.2.2.1, v.2.2.2.2.2.2.2.2.2.2.2.2.2.2.2))
theorem crest_Of_g25 (C : crest_Of_C) (v : crest_Of_Y11) : treg tysT (orc (crest_Of_tab C)) 101 (regO (bodyOf f14) 25) false [(2, (.box [.val Riii])), (3, .any), (8, .any), (10, (.own Riii)), (11, .any), (12, .any), (90, .any)] (crest_Of_S11 v) some = (crest_Of_r25 C v).eval fun y => some (crest_Of_S25 y) := by kernel_rfl
def crest_Of_r26 (C : crest_Of_C) (v : crest_Of_Y25) : Dt crest_Of_Y3 := (Dt.ret ((0:Int), v.2.2.2.2.2.2.2.1))
theorem crest_Of_g26 (C : crest_Of_C) (v : crest_Of_Y25) : treg tysT (orc (crest_Of_tab C)) 101 (regO (bodyOf f14) 26) false [(4, (.own Riii)), (5, .any)] (crest_Of_S25 v) some = (crest_Of_r26 C v).eval fun y => some (crest_Of_S3 y) := by kernel_rfl
def crest_Of_r27 (C : crest_Of_C) (v : crest_Of_Y25) : Dt crest_Of_Y9 := (Dt.ret (v.2.1, v.2.2.2.2.2.2.2.2.2.2.2.1, v.2.2.2.2.2.2.2.2.2.2.2.2, v.2.2.2.2.2.2.2.2.1, v.2.2.2.2.2.2.2.2.2.1, v.2.2.2.2.2.2.2.2.2.2.1, v.2.2.2.2.2.2.2.1, v.2.2.2.2.2.2.2.2.1, v.2.2.2.2.2.2.2.2.2.1, v.2.2.2.2.2.2.2.2.2.2.1, v.2.2.2.2.2.2.2.2.2.2.2.1, v.2.2.2.2.2.2.2.2.2.2.2.2))
theorem crest_Of_g27 (C : crest_Of_C) (v : crest_Of_Y25) : treg tysT (orc (crest_Of_tab C)) 101 (regO (bodyOf f14) 27) true [(2, (.box [.val Riii])), (3, .any), (8, .any), (10, (.own Riii)), (11, .any), (12, .any)] (crest_Of_S25 v) some = (crest_Of_r27 C v).eval fun y => some (crest_Of_S9 y) := by kernel_rfl
def crest_Of_r28 (C : crest_Of_C) (v : crest_Of_Y9) : Dt crest_Of_Y7 := (Dt.ite (apB (List.length v.2.2.2.2.2.2.1) (List.length ([(v.2.2.2.2.2.2.2.2.2.2.1, v.2.2.2.2.2.2.2.2.2.2.2, v.2.2.2.2.2.2.2.1, ())] : List Diii))) (Dt.ret (v.1, v.2.1, v.2.2.1, v.2.2.2.1, v.2.2.2.2.1, v.2.2.2.2.2.1, (v.2.2.2.2.2.2.1 ++ ([(v.2.2.2.2.2.2.2.2.2.2.1, v.2.2.2.2.2.2.2.2.2.2.2, v.2.2.2.2.2.2.2.1, ())] : List Diii)))) Dt.fail)
theorem crest_Of_g28 (C : crest_Of_C) (v : crest_Of_Y9) : treg tysT (orc (crest_Of_tab C)) 101 (regO (bodyOf f14) 28) false [(2, (.box [.val Riii])), (3, .any), (8, .any), (10, (.own Riii))] (crest_Of_S9 v) some = (crest_Of_r28 C v).eval fun y => some (crest_Of_S7 y) := by kernel_rfl
def crest_Of_L2 (d : Nat) (self1 : (List Diii × Int × Int × Int × Int × Int × List Diii) → Option crest_Of_R) (self2 : (List Diii × Int × Int × List Diii × Int × Int × Int × Int × Int × List Diii × Int × Int × Int × Int × Int) → Option crest_Of_R) (x2 : List Diii × Int × Int × List Diii × Int × Int × Int × Int × Int × List Diii × Int × Int × Int × Int × Int) : Option crest_Of_R :=
  (crest_Of_r11 (crest_Of_K d) x2).eval fun y11 =>
  bif y11.2.2.2.1 then ((crest_Of_r12 (crest_Of_K d) y11).eval fun y12 =>
  (crest_Of_r13 (crest_Of_K d) y12).eval fun y13 =>
  (crest_Of_r14 (crest_Of_K d) y13).eval fun y14 =>
  bif y14.2.2.2.1 then (crest_Of_J3 d self1 self2 (y14.1, y14.2.1, y14.2.2.1, y14.2.2.2.2.1, y14.2.2.2.2.2.1, y14.2.2.2.2.2.2.1, y14.2.2.2.2.2.2.2.1, y14.2.2.2.2.2.2.2.2.1, y14.2.2.2.2.2.2.2.2.2.1, y14.2.2.2.2.2.2.2.2.2.2.1, y14.2.2.2.2.2.2.2.2.2.2.2.1, y14.2.2.2.2.2.2.2.2.2.2.2.2.1, y14.2.2.2.2.2.2.2.2.2.2.2.2.2.1, y14.2.2.2.2.2.2.2.2.2.2.2.2.2.2.1, y14.2.2.2.2.2.2.2.2.2.2.2.2.2.2.2.1)) else ((crest_Of_r15 (crest_Of_K d) y14).eval fun y15 =>
  (crest_Of_r16 (crest_Of_K d) y15).eval fun y16 =>
  bif y16.2.2.2.2.1 then ((crest_Of_r17 (crest_Of_K d) y16).eval fun y17 =>
  crest_Of_J4 d self1 self2 y17) else (crest_Of_J4 d self1 self2 (y16.1, y16.2.1, y16.2.2.1, y16.2.2.2.1, y16.2.2.2.2.2.1, y16.2.2.2.2.2.2.1, y16.2.2.2.2.2.2.2.1, y16.2.2.2.2.2.2.2.2.1, y16.2.2.2.2.2.2.2.2.2.1, y16.2.2.2.2.2.2.2.2.2.2.1, y16.2.2.2.2.2.2.2.2.2.2.2.1, y16.2.2.2.2.2.2.2.2.2.2.2.2.1, y16.2.2.2.2.2.2.2.2.2.2.2.2.2.1, y16.2.2.2.2.2.2.2.2.2.2.2.2.2.2.1, y16.2.2.2.2.2.2.2.2.2.2.2.2.2.2.2.1, y16.2.2.2.2.2.2.2.2.2.2.2.2.2.2.2.2.1, y16.2.2.2.2.2.2.2.2.2.2.2.2.2.2.2.2.2.1, y16.2.2.2.2.2.2.2.2.2.2.2.2.2.2.2.2.2.2.1, y16.2.2.2.2.2.2.2.2.2.2.2.2.2.2.2.2.2.2.2.1, y16.2.2.2.2.2.2.2.2.2.2.2.2.2.2.2.2.2.2.2.2.1, y16.2.2.2.2.2.2.2.2.2.2.2.2.2.2.2.2.2.2.2.2.2)))) else ((crest_Of_r25 (crest_Of_K d) y11).eval fun y25 =>
  bif y25.1 then ((crest_Of_r26 (crest_Of_K d) y25).eval fun y26 =>
  some (y26.2, y26.1)) else ((crest_Of_r27 (crest_Of_K d) y25).eval fun y27 =>
  (crest_Of_r28 (crest_Of_K d) y27).eval fun y28 =>
  self1 y28))
def crest_Of_L1 (d : Nat) (self1 : (List Diii × Int × Int × Int × Int × Int × List Diii) → Option crest_Of_R) (x1 : List Diii × Int × Int × Int × Int × Int × List Diii) : Option crest_Of_R :=
  (crest_Of_r8 (crest_Of_K d) x1).eval fun y8 =>
  (crest_Of_r9 (crest_Of_K d) y8).eval fun y9 =>
  (crest_Of_r10 (crest_Of_K d) y9).eval fun y10 =>
  iter (crest_Of_L2 d self1) d y10
def F_crest_Of (d : Nat) (x : crest_Of_X) : Option crest_Of_R :=
  (crest_Of_r0 (crest_Of_K d) (x.1.1, x.2.1.1, x.2.1.2.1)).eval fun y0 =>
  (crest_Of_r1 (crest_Of_K d) y0).eval fun y1 =>
  (crest_Of_r2 (crest_Of_K d) y1).eval fun y2 =>
  bif y2.2.1 then ((crest_Of_r3 (crest_Of_K d) y2).eval fun y3 =>
  some (y3.2, y3.1)) else ((crest_Of_r4 (crest_Of_K d) y2).eval fun y4 =>
  bif y4.1 then ((crest_Of_r5 (crest_Of_K d) y4).eval fun y5 =>
  some (y5.2, y5.1)) else ((crest_Of_r6 (crest_Of_K d) y4).eval fun y6 =>
  (crest_Of_r7 (crest_Of_K d) y6).eval fun y7 =>
  iter (crest_Of_L1 d ) d y7))
theorem crest_Of_cok (d : Nat) : COK prog (crest_Of_sp (F_crest_Of d)) := by
  have hm : prog.follows .mixedOrders = true := mixed
  have hT := tys
  have hC0 : OrcOK prog (orc (crest_Of_tab (crest_Of_K d))) := orc_ok (by
    intro S hS
    simp only [crest_Of_tab, List.mem_cons, List.not_mem_nil, or_false] at hS
    rcases hS with rfl | rfl | rfl | rfl | rfl
    · exact field_Order_cok d
    · exact field_Find_cok d
    · exact course_Fails_cok d
    · exact crest_compare_cok d
    · exact course_Ahead_cok d)
  have hC : OrcOK prog (orc (crest_Of_tab (crest_Of_K d))) := hC0
  refine cok_of (c := bodyOf f14) (fn := f14) hT (by kernel_rfl) (by kernel_rfl) (by decide) fun x r h w0 φ0 Q hend => ?_
  replace h : F_crest_Of d x = some r := h
  unfold F_crest_Of at h
  show Run prog w0 φ0 101 (bodyOf f14) ⟨[(0, .agg [.fz Riii x.1.1]), (1, .agg [.int .i64 x.2.1.1, .int .i64 x.2.1.2.1])], []⟩ Q
  refine run_seq ?_
  refine run_reg hm hT hC (crest_Of_g0 (crest_Of_K d) (x.1.1, x.2.1.1, x.2.1.2.1)) h ?_
  intro y0 h
  refine cn_then ?_
  refine run_seq ?_
  refine run_reg hm hT hC (crest_Of_g1 (crest_Of_K d) y0) h ?_
  intro y1 h
  refine cn_then ?_
  refine run_seq ?_
  refine run_seq ?_
  refine run_reg hm hT hC (crest_Of_g2 (crest_Of_K d) y1) h ?_
  intro y2 h
  refine cn_then ?_
  refine run_cond (v := y2.2.1) (by kernel_rfl) h ?_ ?_
  ·
    intro h
    refine run_seq ?_
    refine run_reg hm hT hC (crest_Of_g3 (crest_Of_K d) y2) h ?_
    intro y3 h
    refine cn_then ?_
    refine run_ret ?_
    refine cn_then_ret ?_
    cases h
    exact (hend _ (by kernel_rfl)).2
  ·
    intro h
    refine run_skip ?_
    refine cn_then ?_
    refine run_seq ?_
    refine run_seq ?_
    refine run_reg hm hT hC (crest_Of_g4 (crest_Of_K d) y2) h ?_
    intro y4 h
    refine cn_then ?_
    refine run_cond (v := y4.1) (by kernel_rfl) h ?_ ?_
    ·
      intro h
      refine run_seq ?_
      refine run_reg hm hT hC (crest_Of_g5 (crest_Of_K d) y4) h ?_
      intro y5 h
      refine cn_then ?_
      refine run_ret ?_
      refine cn_then_ret ?_
      cases h
      exact (hend _ (by kernel_rfl)).2
    ·
      intro h
      refine run_skip ?_
      refine cn_then ?_
      refine run_seq ?_
      refine run_reg hm hT hC (crest_Of_g6 (crest_Of_K d) y4) h ?_
      intro y6 h
      refine cn_then ?_
      refine run_seq ?_
      refine run_reg hm hT hC (crest_Of_g7 (crest_Of_K d) y6) h ?_
      intro y7 h
      refine cn_then ?_
      refine run_block ?_
      refine run_loop (G := iter (crest_Of_L1 d )) (S := (fun x1 => ⟨[(2, .ptr 0 0), (3, .ptr 1 0), (8, .ptr 2 0), (10, .rs 3)], [.cells [.fz Riii x1.1], .cells [.int .i64 x1.2.1, .int .i64 x1.2.2.1], .cells [.int .i64 x1.2.2.2.1, .int .i64 x1.2.2.2.2.1, .int .i64 x1.2.2.2.2.2.1], .rows Riii x1.2.2.2.2.2.2]⟩ : List Diii × Int × Int × Int × Int × Int × List Diii → St)) (fun _ => rfl) ?_ d _ h
      intro n1 x1 h K1 hn1
      replace h : crest_Of_L1 d  (iter (crest_Of_L1 d ) n1) x1 = some r := h
      generalize iter (crest_Of_L1 d ) n1 = self1 at h hn1
      unfold crest_Of_L1 at h
      refine run_block ?_
      refine run_seq ?_
      refine run_reg hm hT hC (crest_Of_g8 (crest_Of_K d) x1) h ?_
      intro y8 h
      refine cn_then ?_
      refine run_seq ?_
      refine run_reg hm hT hC (crest_Of_g9 (crest_Of_K d) y8) h ?_
      intro y9 h
      refine cn_then ?_
      refine run_seq ?_
      refine run_seq ?_
      refine run_reg hm hT hC (crest_Of_g10 (crest_Of_K d) y9) h ?_
      intro y10 h
      refine cn_then ?_
      refine run_block ?_
      refine run_loop (G := iter (crest_Of_L2 d self1)) (S := (fun x2 => ⟨[(2, .ptr 0 0), (3, .ptr 1 0), (8, .ptr 2 0), (10, .rs 3), (11, .ptr 4 0), (12, .ptr 5 0), (47, .fz Riii x2.1), (48, .int .i64 x2.2.1), (49, .int .i64 x2.2.2.1)], [.cells [.fz Riii x2.2.2.2.1], .cells [.int .i64 x2.2.2.2.2.1, .int .i64 x2.2.2.2.2.2.1], .cells [.int .i64 x2.2.2.2.2.2.2.1, .int .i64 x2.2.2.2.2.2.2.2.1, .int .i64 x2.2.2.2.2.2.2.2.2.1], .rows Riii x2.2.2.2.2.2.2.2.2.2.1, .cells [.int .i64 x2.2.2.2.2.2.2.2.2.2.2.1, .int .i64 x2.2.2.2.2.2.2.2.2.2.2.2.1, .int .i64 x2.2.2.2.2.2.2.2.2.2.2.2.2.1], .cells [.int .i64 x2.2.2.2.2.2.2.2.2.2.2.2.2.2.1, .int .i64 x2.2.2.2.2.2.2.2.2.2.2.2.2.2.2]]⟩ : List Diii × Int × Int × List Diii × Int × Int × Int × Int × Int × List Diii × Int × Int × Int × Int × Int → St)) (fun _ => rfl) ?_ d _ h
      intro n2 x2 h K2 hn2
      replace h : crest_Of_L2 d self1 (iter (crest_Of_L2 d self1) n2) x2 = some r := h
      generalize iter (crest_Of_L2 d self1) n2 = self2 at h hn2
      unfold crest_Of_L2 at h
      refine run_seq ?_
      refine run_reg hm hT hC (crest_Of_g11 (crest_Of_K d) x2) h ?_
      intro y11 h
      refine cn_then ?_
      refine run_seq ?_
      refine run_cond (v := y11.2.2.2.1) (by kernel_rfl) h ?_ ?_
      ·
        intro h
        refine run_skip ?_
        refine cn_then ?_
        refine run_join (r := r) (F := crest_Of_J3 d self1 self2) (S := (fun z => ⟨[(2, .ptr 0 0), (3, .ptr 1 0), (8, .ptr 2 0), (10, .rs 3), (11, .ptr 4 0), (12, .ptr 5 0), (47, .fz Riii z.1), (48, .int .i64 z.2.1), (49, .int .i64 z.2.2.1)], [.cells [.fz Riii z.2.2.2.1], .cells [.int .i64 z.2.2.2.2.1, .int .i64 z.2.2.2.2.2.1], .cells [.int .i64 z.2.2.2.2.2.2.1, .int .i64 z.2.2.2.2.2.2.2.1, .int .i64 z.2.2.2.2.2.2.2.2.1], .rows Riii z.2.2.2.2.2.2.2.2.2.1, .cells [.int .i64 z.2.2.2.2.2.2.2.2.2.2.1, .int .i64 z.2.2.2.2.2.2.2.2.2.2.2.1, .int .i64 z.2.2.2.2.2.2.2.2.2.2.2.2.1], .cells [.int .i64 z.2.2.2.2.2.2.2.2.2.2.2.2.2.1, .int .i64 z.2.2.2.2.2.2.2.2.2.2.2.2.2.2]]⟩ : List Diii × Int × Int × List Diii × Int × Int × Int × Int × Int × List Diii × Int × Int × Int × Int × Int → St)) ?_ ?_
        ·
          intro z h
          unfold crest_Of_J3 at h
          refine run_reg hm hT hC (crest_Of_g24 (crest_Of_K d) z) h ?_
          intro y24 h
          exact hn2 _ h
        intro hj3
        refine run_block ?_
        refine run_seq ?_
        refine run_reg hm hT hC (crest_Of_g12 (crest_Of_K d) y11) h ?_
        intro y12 h
        refine cn_then ?_
        refine run_seq ?_
        refine run_reg hm hT hC (crest_Of_g13 (crest_Of_K d) y12) h ?_
        intro y13 h
        refine cn_then ?_
        refine run_seq ?_
        refine run_seq ?_
        refine run_reg hm hT hC (crest_Of_g14 (crest_Of_K d) y13) h ?_
        intro y14 h
        refine cn_then ?_
        refine run_cond (v := y14.2.2.2.1) (by kernel_rfl) h ?_ ?_
        ·
          intro h
          refine run_exit ?_
          refine cn_then_exit ?_
          refine cn_blk_eq ?_
          refine cn_num (s := ⟨[(2, .ptr 0 0), (3, .ptr 1 0), (8, .ptr 2 0), (10, .rs 3), (11, .ptr 4 0), (12, .ptr 5 0), (47, .fz Riii y14.1), (48, .int .i64 y14.2.1), (49, .int .i64 y14.2.2.1)], [.cells [.fz Riii y14.2.2.2.2.1], .cells [.int .i64 y14.2.2.2.2.2.1, .int .i64 y14.2.2.2.2.2.2.1], .cells [.int .i64 y14.2.2.2.2.2.2.2.1, .int .i64 y14.2.2.2.2.2.2.2.2.1, .int .i64 y14.2.2.2.2.2.2.2.2.2.1], .rows Riii y14.2.2.2.2.2.2.2.2.2.2.1, .cells [.int .i64 y14.2.2.2.2.2.2.2.2.2.2.2.1, .int .i64 y14.2.2.2.2.2.2.2.2.2.2.2.2.1, .int .i64 y14.2.2.2.2.2.2.2.2.2.2.2.2.2.1], .cells [.int .i64 y14.2.2.2.2.2.2.2.2.2.2.2.2.2.2.1, .int .i64 y14.2.2.2.2.2.2.2.2.2.2.2.2.2.2.2.1]]⟩) [14, 15, 66] (by kernel_rfl) ?_
          exact hj3 _ h
        ·
          intro h
          refine run_skip ?_
          refine cn_then ?_
          refine run_seq ?_
          refine run_reg hm hT hC (crest_Of_g15 (crest_Of_K d) y14) h ?_
          intro y15 h
          refine cn_then ?_
          refine run_join (r := r) (F := crest_Of_J4 d self1 self2) (S := (fun z => ⟨[(2, .ptr 0 0), (3, .ptr 1 0), (8, .ptr 2 0), (10, .rs 3), (11, .ptr 4 0), (12, .ptr 5 0), (14, .ptr 6 0), (15, .ptr 7 0), (18, .int .i64 z.1), (47, .fz Riii z.2.1), (48, .int .i64 z.2.2.1), (49, .int .i64 z.2.2.2.1)], [.cells [.fz Riii z.2.2.2.2.1], .cells [.int .i64 z.2.2.2.2.2.1, .int .i64 z.2.2.2.2.2.2.1], .cells [.int .i64 z.2.2.2.2.2.2.2.1, .int .i64 z.2.2.2.2.2.2.2.2.1, .int .i64 z.2.2.2.2.2.2.2.2.2.1], .rows Riii z.2.2.2.2.2.2.2.2.2.2.1, .cells [.int .i64 z.2.2.2.2.2.2.2.2.2.2.2.1, .int .i64 z.2.2.2.2.2.2.2.2.2.2.2.2.1, .int .i64 z.2.2.2.2.2.2.2.2.2.2.2.2.2.1], .cells [.int .i64 z.2.2.2.2.2.2.2.2.2.2.2.2.2.2.1, .int .i64 z.2.2.2.2.2.2.2.2.2.2.2.2.2.2.2.1], .cells [.int .i64 z.2.2.2.2.2.2.2.2.2.2.2.2.2.2.2.2.1, .int .i64 z.2.2.2.2.2.2.2.2.2.2.2.2.2.2.2.2.2.1, .int .i64 z.2.2.2.2.2.2.2.2.2.2.2.2.2.2.2.2.2.2.1], .cells [.int .i64 z.2.2.2.2.2.2.2.2.2.2.2.2.2.2.2.2.2.2.2.1, .int .i64 z.2.2.2.2.2.2.2.2.2.2.2.2.2.2.2.2.2.2.2.2]]⟩ : Int × List Diii × Int × Int × List Diii × Int × Int × Int × Int × Int × List Diii × Int × Int × Int × Int × Int × Int × Int × Int × Int × Int → St)) ?_ ?_
          ·
            intro z h
            unfold crest_Of_J4 at h
            refine run_join (r := r) (F := crest_Of_J5 d self1 self2) (S := (fun z => ⟨[(2, .ptr 0 0), (3, .ptr 1 0), (8, .ptr 2 0), (10, .rs 3), (11, .ptr 4 0), (12, .ptr 5 0), (14, .ptr 6 0), (15, .ptr 7 0), (18, .int .i64 z.1), (47, .fz Riii z.2.1), (48, .int .i64 z.2.2.1), (49, .int .i64 z.2.2.2.1)], [.cells [.fz Riii z.2.2.2.2.1], .cells [.int .i64 z.2.2.2.2.2.1, .int .i64 z.2.2.2.2.2.2.1], .cells [.int .i64 z.2.2.2.2.2.2.2.1, .int .i64 z.2.2.2.2.2.2.2.2.1, .int .i64 z.2.2.2.2.2.2.2.2.2.1], .rows Riii z.2.2.2.2.2.2.2.2.2.2.1, .cells [.int .i64 z.2.2.2.2.2.2.2.2.2.2.2.1, .int .i64 z.2.2.2.2.2.2.2.2.2.2.2.2.1, .int .i64 z.2.2.2.2.2.2.2.2.2.2.2.2.2.1], .cells [.int .i64 z.2.2.2.2.2.2.2.2.2.2.2.2.2.2.1, .int .i64 z.2.2.2.2.2.2.2.2.2.2.2.2.2.2.2.1], .cells [.int .i64 z.2.2.2.2.2.2.2.2.2.2.2.2.2.2.2.2.1, .int .i64 z.2.2.2.2.2.2.2.2.2.2.2.2.2.2.2.2.2.1, .int .i64 z.2.2.2.2.2.2.2.2.2.2.2.2.2.2.2.2.2.2.1], .cells [.int .i64 z.2.2.2.2.2.2.2.2.2.2.2.2.2.2.2.2.2.2.2.1, .int .i64 z.2.2.2.2.2.2.2.2.2.2.2.2.2.2.2.2.2.2.2.2]]⟩ : Int × List Diii × Int × Int × List Diii × Int × Int × Int × Int × Int × List Diii × Int × Int × Int × Int × Int × Int × Int × Int × Int × Int → St)) ?_ ?_
            ·
              intro z h
              unfold crest_Of_J5 at h
              refine run_seq ?_
              refine run_reg hm hT hC (crest_Of_g22 (crest_Of_K d) z) h ?_
              intro y22 h
              refine cn_then ?_
              refine run_cond (v := y22.2.2.2.1) (by kernel_rfl) h ?_ ?_
              ·
                intro h
                refine run_reg hm hT hC (crest_Of_g23 (crest_Of_K d) y22) h ?_
                intro y23 h
                refine cn_blk ?_
                exact hj3 _ h
              ·
                intro h
                refine run_skip ?_
                refine cn_blk ?_
                refine cn_num (s := ⟨[(2, .ptr 0 0), (3, .ptr 1 0), (8, .ptr 2 0), (10, .rs 3), (11, .ptr 4 0), (12, .ptr 5 0), (47, .fz Riii y22.1), (48, .int .i64 y22.2.1), (49, .int .i64 y22.2.2.1), (84, .bool y22.2.2.2.1)], [.cells [.fz Riii y22.2.2.2.2.1], .cells [.int .i64 y22.2.2.2.2.2.1, .int .i64 y22.2.2.2.2.2.2.1], .cells [.int .i64 y22.2.2.2.2.2.2.2.1, .int .i64 y22.2.2.2.2.2.2.2.2.1, .int .i64 y22.2.2.2.2.2.2.2.2.2.1], .rows Riii y22.2.2.2.2.2.2.2.2.2.2.1, .cells [.int .i64 y22.2.2.2.2.2.2.2.2.2.2.2.1, .int .i64 y22.2.2.2.2.2.2.2.2.2.2.2.2.1, .int .i64 y22.2.2.2.2.2.2.2.2.2.2.2.2.2.1], .cells [.int .i64 y22.2.2.2.2.2.2.2.2.2.2.2.2.2.2.1, .int .i64 y22.2.2.2.2.2.2.2.2.2.2.2.2.2.2.2.1]]⟩) [14, 15] (by kernel_rfl) ?_
                refine cn_num (s := ⟨[(2, .ptr 0 0), (3, .ptr 1 0), (8, .ptr 2 0), (10, .rs 3), (11, .ptr 4 0), (12, .ptr 5 0), (47, .fz Riii y22.1), (48, .int .i64 y22.2.1), (49, .int .i64 y22.2.2.1)], [.cells [.fz Riii y22.2.2.2.2.1], .cells [.int .i64 y22.2.2.2.2.2.1, .int .i64 y22.2.2.2.2.2.2.1], .cells [.int .i64 y22.2.2.2.2.2.2.2.1, .int .i64 y22.2.2.2.2.2.2.2.2.1, .int .i64 y22.2.2.2.2.2.2.2.2.2.1], .rows Riii y22.2.2.2.2.2.2.2.2.2.2.1, .cells [.int .i64 y22.2.2.2.2.2.2.2.2.2.2.2.1, .int .i64 y22.2.2.2.2.2.2.2.2.2.2.2.2.1, .int .i64 y22.2.2.2.2.2.2.2.2.2.2.2.2.2.1], .cells [.int .i64 y22.2.2.2.2.2.2.2.2.2.2.2.2.2.2.1, .int .i64 y22.2.2.2.2.2.2.2.2.2.2.2.2.2.2.2.1]]⟩) [84] (by kernel_rfl) ?_
                exact hj3 _ h
            intro hj5
            refine run_seq ?_
            refine run_reg hm hT hC (crest_Of_g18 (crest_Of_K d) z) h ?_
            intro y18 h
            refine cn_then ?_
            refine run_cond (v := y18.2.2.2.2.1) (by kernel_rfl) h ?_ ?_
            ·
              intro h
              refine run_seq ?_
              refine run_reg hm hT hC (crest_Of_g19 (crest_Of_K d) y18) h ?_
              intro y19 h
              refine cn_then ?_
              refine run_seq ?_
              refine run_reg hm hT hC (crest_Of_g20 (crest_Of_K d) y19) h ?_
              intro y20 h
              refine cn_then ?_
              refine run_cond (v := y20.2.2.2.2.1) (by kernel_rfl) h ?_ ?_
              ·
                intro h
                refine run_reg hm hT hC (crest_Of_g21 (crest_Of_K d) y20) h ?_
                intro y21 h
                exact hj5 _ h
              ·
                intro h
                refine run_skip ?_
                refine cn_num (s := ⟨[(2, .ptr 0 0), (3, .ptr 1 0), (8, .ptr 2 0), (10, .rs 3), (11, .ptr 4 0), (12, .ptr 5 0), (14, .ptr 6 0), (15, .ptr 7 0), (18, .int .i64 y20.1), (47, .fz Riii y20.2.1), (48, .int .i64 y20.2.2.1), (49, .int .i64 y20.2.2.2.1)], [.cells [.fz Riii y20.2.2.2.2.2.1], .cells [.int .i64 y20.2.2.2.2.2.2.1, .int .i64 y20.2.2.2.2.2.2.2.1], .cells [.int .i64 y20.2.2.2.2.2.2.2.2.1, .int .i64 y20.2.2.2.2.2.2.2.2.2.1, .int .i64 y20.2.2.2.2.2.2.2.2.2.2.1], .rows Riii y20.2.2.2.2.2.2.2.2.2.2.2.1, .cells [.int .i64 y20.2.2.2.2.2.2.2.2.2.2.2.2.1, .int .i64 y20.2.2.2.2.2.2.2.2.2.2.2.2.2.1, .int .i64 y20.2.2.2.2.2.2.2.2.2.2.2.2.2.2.1], .cells [.int .i64 y20.2.2.2.2.2.2.2.2.2.2.2.2.2.2.2.1, .int .i64 y20.2.2.2.2.2.2.2.2.2.2.2.2.2.2.2.2.1], .cells [.int .i64 y20.2.2.2.2.2.2.2.2.2.2.2.2.2.2.2.2.2.1, .int .i64 y20.2.2.2.2.2.2.2.2.2.2.2.2.2.2.2.2.2.2.1, .int .i64 y20.2.2.2.2.2.2.2.2.2.2.2.2.2.2.2.2.2.2.2.1], .cells [.int .i64 y20.2.2.2.2.2.2.2.2.2.2.2.2.2.2.2.2.2.2.2.2.1, .int .i64 y20.2.2.2.2.2.2.2.2.2.2.2.2.2.2.2.2.2.2.2.2.2]]⟩) [82] (by kernel_rfl) ?_
                exact hj5 _ h
            ·
              intro h
              refine run_skip ?_
              refine cn_num (s := ⟨[(2, .ptr 0 0), (3, .ptr 1 0), (8, .ptr 2 0), (10, .rs 3), (11, .ptr 4 0), (12, .ptr 5 0), (14, .ptr 6 0), (15, .ptr 7 0), (18, .int .i64 y18.1), (47, .fz Riii y18.2.1), (48, .int .i64 y18.2.2.1), (49, .int .i64 y18.2.2.2.1)], [.cells [.fz Riii y18.2.2.2.2.2.1], .cells [.int .i64 y18.2.2.2.2.2.2.1, .int .i64 y18.2.2.2.2.2.2.2.1], .cells [.int .i64 y18.2.2.2.2.2.2.2.2.1, .int .i64 y18.2.2.2.2.2.2.2.2.2.1, .int .i64 y18.2.2.2.2.2.2.2.2.2.2.1], .rows Riii y18.2.2.2.2.2.2.2.2.2.2.2.1, .cells [.int .i64 y18.2.2.2.2.2.2.2.2.2.2.2.2.1, .int .i64 y18.2.2.2.2.2.2.2.2.2.2.2.2.2.1, .int .i64 y18.2.2.2.2.2.2.2.2.2.2.2.2.2.2.1], .cells [.int .i64 y18.2.2.2.2.2.2.2.2.2.2.2.2.2.2.2.1, .int .i64 y18.2.2.2.2.2.2.2.2.2.2.2.2.2.2.2.2.1], .cells [.int .i64 y18.2.2.2.2.2.2.2.2.2.2.2.2.2.2.2.2.2.1, .int .i64 y18.2.2.2.2.2.2.2.2.2.2.2.2.2.2.2.2.2.2.1, .int .i64 y18.2.2.2.2.2.2.2.2.2.2.2.2.2.2.2.2.2.2.2.1], .cells [.int .i64 y18.2.2.2.2.2.2.2.2.2.2.2.2.2.2.2.2.2.2.2.2.1, .int .i64 y18.2.2.2.2.2.2.2.2.2.2.2.2.2.2.2.2.2.2.2.2.2]]⟩) [74] (by kernel_rfl) ?_
              exact hj5 _ h
          intro hj4
          refine run_seq ?_
          refine run_reg hm hT hC (crest_Of_g16 (crest_Of_K d) y15) h ?_
          intro y16 h
          refine cn_then ?_
          refine run_cond (v := y16.2.2.2.2.1) (by kernel_rfl) h ?_ ?_
          ·
            intro h
            refine run_reg hm hT hC (crest_Of_g17 (crest_Of_K d) y16) h ?_
            intro y17 h
            exact hj4 _ h
          ·
            intro h
            refine run_skip ?_
            refine cn_num (s := ⟨[(2, .ptr 0 0), (3, .ptr 1 0), (8, .ptr 2 0), (10, .rs 3), (11, .ptr 4 0), (12, .ptr 5 0), (14, .ptr 6 0), (15, .ptr 7 0), (18, .int .i64 y16.1), (47, .fz Riii y16.2.1), (48, .int .i64 y16.2.2.1), (49, .int .i64 y16.2.2.2.1)], [.cells [.fz Riii y16.2.2.2.2.2.1], .cells [.int .i64 y16.2.2.2.2.2.2.1, .int .i64 y16.2.2.2.2.2.2.2.1], .cells [.int .i64 y16.2.2.2.2.2.2.2.2.1, .int .i64 y16.2.2.2.2.2.2.2.2.2.1, .int .i64 y16.2.2.2.2.2.2.2.2.2.2.1], .rows Riii y16.2.2.2.2.2.2.2.2.2.2.2.1, .cells [.int .i64 y16.2.2.2.2.2.2.2.2.2.2.2.2.1, .int .i64 y16.2.2.2.2.2.2.2.2.2.2.2.2.2.1, .int .i64 y16.2.2.2.2.2.2.2.2.2.2.2.2.2.2.1], .cells [.int .i64 y16.2.2.2.2.2.2.2.2.2.2.2.2.2.2.2.1, .int .i64 y16.2.2.2.2.2.2.2.2.2.2.2.2.2.2.2.2.1], .cells [.int .i64 y16.2.2.2.2.2.2.2.2.2.2.2.2.2.2.2.2.2.1, .int .i64 y16.2.2.2.2.2.2.2.2.2.2.2.2.2.2.2.2.2.2.1, .int .i64 y16.2.2.2.2.2.2.2.2.2.2.2.2.2.2.2.2.2.2.2.1], .cells [.int .i64 y16.2.2.2.2.2.2.2.2.2.2.2.2.2.2.2.2.2.2.2.2.1, .int .i64 y16.2.2.2.2.2.2.2.2.2.2.2.2.2.2.2.2.2.2.2.2.2]]⟩) [69] (by kernel_rfl) ?_
            exact hj4 _ h
      ·
        intro h
        refine run_exit ?_
        refine cn_then_exit ?_
        refine cn_then_exit ?_
        refine cn_blk_eq ?_
        refine cn_then ?_
        refine run_seq ?_
        refine run_seq ?_
        refine run_reg hm hT hC (crest_Of_g25 (crest_Of_K d) y11) h ?_
        intro y25 h
        refine cn_then ?_
        refine run_cond (v := y25.1) (by kernel_rfl) h ?_ ?_
        ·
          intro h
          refine run_seq ?_
          refine run_reg hm hT hC (crest_Of_g26 (crest_Of_K d) y25) h ?_
          intro y26 h
          refine cn_then ?_
          refine run_ret ?_
          refine cn_then_ret ?_
          refine cn_blk_ret ?_
          refine cn_then_ret ?_
          refine cn_blk_ret ?_
          cases h
          exact (hend _ (by kernel_rfl)).2
        ·
          intro h
          refine run_skip ?_
          refine cn_then ?_
          refine run_seq ?_
          refine run_reg hm hT hC (crest_Of_g27 (crest_Of_K d) y25) h ?_
          intro y27 h
          refine cn_then ?_
          refine run_reg hm hT hC (crest_Of_g28 (crest_Of_K d) y27) h ?_
          intro y28 h
          refine cn_blk ?_
          exact hn1 _ h
abbrev crest_Check_ps : List Pk := [.row RLiiiE false]
abbrev crest_Check_X : Type := DLiiiE × Unit
abbrev crest_Check_R : Type := Int
def crest_Check_enc (r : crest_Check_R) : LV × List Ob := (.int .i64 r, [])
def crest_Check_sp (F : crest_Check_X → Option crest_Check_R) : Go.Tx.Spec := ⟨19, crest_Check_ps, crest_Check_R, F, crest_Check_enc⟩
abbrev crest_Check_C : Type := (crest_compare_X → Option crest_compare_R) × (ratio_Check_X → Option ratio_Check_R) × Unit
def crest_Check_K (d : Nat) : crest_Check_C := (F_crest_compare d, F_ratio_Check d, ())
def crest_Check_tab (C : crest_Check_C) : List Go.Tx.Spec := [crest_compare_sp C.1, ratio_Check_sp C.2.1]
abbrev crest_Check_Y0i : Type := List Diii
def crest_Check_S0i (v : crest_Check_Y0i) : St := ⟨[(0, .fz Riii v)], []⟩
def crest_Check_r0 (C : crest_Check_C) (v : crest_Check_Y0i) : Dt crest_Check_Y0i := (Dt.ret v)
theorem crest_Check_g0 (C : crest_Check_C) (v : crest_Check_Y0i) : treg tysT (orc (crest_Check_tab C)) 60 (regO (bodyOf f19) 0) false [(0, (.val Riii))] (crest_Check_S0i v) some = (crest_Check_r0 C v).eval fun y => some (crest_Check_S0i y) := by kernel_rfl
abbrev crest_Check_Y1 : Type := List Diii × Bool
def crest_Check_S1 (v : crest_Check_Y1) : St := ⟨[(0, .fz Riii v.1), (12, .bool v.2)], []⟩
def crest_Check_r1 (C : crest_Check_C) (v : crest_Check_Y0i) : Dt crest_Check_Y1 := (Dt.ite (decide ((List.length v : Int) < (1:Int))) (Dt.ret (v, true)) (Dt.ret (v, (decide ((List.length v : Int) > (300:Int))))))
theorem crest_Check_g1 (C : crest_Check_C) (v : crest_Check_Y0i) : treg tysT (orc (crest_Check_tab C)) 60 (regO (bodyOf f19) 1) false [(0, (.val Riii)), (12, .any)] (crest_Check_S0i v) some = (crest_Check_r1 C v).eval fun y => some (crest_Check_S1 y) := by kernel_rfl
abbrev crest_Check_Y2 : Type := Int
def crest_Check_S2 (v : crest_Check_Y2) : St := ⟨[(2, .int .i64 v)], []⟩
def crest_Check_r2 (C : crest_Check_C) (v : crest_Check_Y1) : Dt crest_Check_Y2 := (Dt.ret (8:Int))
theorem crest_Check_g2 (C : crest_Check_C) (v : crest_Check_Y1) : treg tysT (orc (crest_Check_tab C)) 60 (regO (bodyOf f19) 2) false [(2, .any)] (crest_Check_S1 v) some = (crest_Check_r2 C v).eval fun y => some (crest_Check_S2 y) := by kernel_rfl
abbrev crest_Check_Y3 : Type := List Diii × List Diii × Int × Int
def crest_Check_S3 (v : crest_Check_Y3) : St := ⟨[(0, .fz Riii v.1), (13, .fz Riii v.2.1), (14, .int .i64 v.2.2.1), (15, .int .i64 v.2.2.2)], []⟩
def crest_Check_r3 (C : crest_Check_C) (v : crest_Check_Y1) : Dt crest_Check_Y3 := (Dt.ret (v.1, v.1, (List.length v.1 : Int), (0:Int)))
theorem crest_Check_g3 (C : crest_Check_C) (v : crest_Check_Y1) : treg tysT (orc (crest_Check_tab C)) 60 (regO (bodyOf f19) 3) false [(0, (.val Riii)), (13, (.val Riii)), (14, .any), (15, .any)] (crest_Check_S1 v) some = (crest_Check_r3 C v).eval fun y => some (crest_Check_S3 y) := by kernel_rfl
abbrev crest_Check_Y4 : Type := List Diii × List Diii × Int × Int × Bool
def crest_Check_S4 (v : crest_Check_Y4) : St := ⟨[(0, .fz Riii v.1), (13, .fz Riii v.2.1), (14, .int .i64 v.2.2.1), (15, .int .i64 v.2.2.2.1), (16, .bool v.2.2.2.2)], []⟩
def crest_Check_r4 (C : crest_Check_C) (v : crest_Check_Y3) : Dt crest_Check_Y4 := (Dt.ret (v.1, v.2.1, v.2.2.1, v.2.2.2, (decide (v.2.2.2 < v.2.2.1))))
theorem crest_Check_g4 (C : crest_Check_C) (v : crest_Check_Y3) : treg tysT (orc (crest_Check_tab C)) 60 (regO (bodyOf f19) 4) false [(0, (.val Riii)), (13, (.val Riii)), (14, .any), (15, .any), (16, .any)] (crest_Check_S3 v) some = (crest_Check_r4 C v).eval fun y => some (crest_Check_S4 y) := by kernel_rfl
abbrev crest_Check_Y5 : Type := List Diii × Int × List Diii × Int × Int × Int × Int × Int
def crest_Check_S5 (v : crest_Check_Y5) : St := ⟨[(0, .fz Riii v.1), (3, .int .i64 v.2.1), (4, .ptr 0 0), (13, .fz Riii v.2.2.1), (14, .int .i64 v.2.2.2.1), (15, .int .i64 v.2.2.2.2.1)], [.cells [.int .i64 v.2.2.2.2.2.1, .int .i64 v.2.2.2.2.2.2.1, .int .i64 v.2.2.2.2.2.2.2]]⟩
def crest_Check_r5 (C : crest_Check_C) (v : crest_Check_Y4) : Dt crest_Check_Y5 := (Dt.ite (inB v.2.2.2.1 (List.length v.2.1)) (Dt.ret (v.1, v.2.2.2.1, v.2.1, v.2.2.1, v.2.2.2.1, (elt ziii v.2.1 (v.2.2.2.1).toNat).1, (elt ziii v.2.1 (v.2.2.2.1).toNat).2.1, (elt ziii v.2.1 (v.2.2.2.1).toNat).2.2.1)) Dt.fail)
theorem crest_Check_g5 (C : crest_Check_C) (v : crest_Check_Y4) : treg tysT (orc (crest_Check_tab C)) 60 (regO (bodyOf f19) 5) false [(0, (.val Riii)), (3, .any), (4, .any), (13, (.val Riii)), (14, .any), (15, .any)] (crest_Check_S4 v) some = (crest_Check_r5 C v).eval fun y => some (crest_Check_S5 y) := by kernel_rfl
abbrev crest_Check_Y6 : Type := List Diii × Int × List Diii × Int × Int × Bool × Int × Int × Int
def crest_Check_S6 (v : crest_Check_Y6) : St := ⟨[(0, .fz Riii v.1), (3, .int .i64 v.2.1), (4, .ptr 0 0), (13, .fz Riii v.2.2.1), (14, .int .i64 v.2.2.2.1), (15, .int .i64 v.2.2.2.2.1), (33, .bool v.2.2.2.2.2.1)], [.cells [.int .i64 v.2.2.2.2.2.2.1, .int .i64 v.2.2.2.2.2.2.2.1, .int .i64 v.2.2.2.2.2.2.2.2]]⟩
def crest_Check_r6 (C : crest_Check_C) (v : crest_Check_Y5) : Dt crest_Check_Y6 := (Dt.bnd (C.2.1 ((v.2.2.2.2.2.1, v.2.2.2.2.2.2.1, ()), ())) fun r1 => (Dt.ite (r1 != (0:Int)) (Dt.ret (v.1, v.2.1, v.2.2.1, v.2.2.2.1, v.2.2.2.2.1, true, v.2.2.2.2.2.1, v.2.2.2.2.2.2.1, v.2.2.2.2.2.2.2)) (Dt.ite (decide (v.2.2.2.2.2.2.2 < (0:Int))) (Dt.ret (v.1, v.2.1, v.2.2.1, v.2.2.2.1, v.2.2.2.2.1, true, v.2.2.2.2.2.1, v.2.2.2.2.2.2.1, v.2.2.2.2.2.2.2)) (Dt.ret (v.1, v.2.1, v.2.2.1, v.2.2.2.1, v.2.2.2.2.1, (decide (v.2.2.2.2.2.2.2 > (65535:Int))), v.2.2.2.2.2.1, v.2.2.2.2.2.2.1, v.2.2.2.2.2.2.2)))))
theorem crest_Check_g6 (C : crest_Check_C) (v : crest_Check_Y5) : treg tysT (orc (crest_Check_tab C)) 60 (regO (bodyOf f19) 6) false [(0, (.val Riii)), (3, .any), (4, .any), (13, (.val Riii)), (14, .any), (15, .any), (33, .any)] (crest_Check_S5 v) some = (crest_Check_r6 C v).eval fun y => some (crest_Check_S6 y) := by kernel_rfl
def crest_Check_r7 (C : crest_Check_C) (v : crest_Check_Y6) : Dt crest_Check_Y2 := (Dt.ret (8:Int))
theorem crest_Check_g7 (C : crest_Check_C) (v : crest_Check_Y6) : treg tysT (orc (crest_Check_tab C)) 60 (regO (bodyOf f19) 7) false [(2, .any)] (crest_Check_S6 v) some = (crest_Check_r7 C v).eval fun y => some (crest_Check_S2 y) := by kernel_rfl
abbrev crest_Check_Y8 : Type := List Diii × List Diii × Int × Int × Bool
def crest_Check_S8 (v : crest_Check_Y8) : St := ⟨[(0, .fz Riii v.1), (13, .fz Riii v.2.1), (14, .int .i64 v.2.2.1), (15, .int .i64 v.2.2.2.1), (58, .bool v.2.2.2.2)], []⟩
def crest_Check_r8 (C : crest_Check_C) (v : crest_Check_Y6) : Dt crest_Check_Y8 := (Dt.ite (decide (v.2.1 > (0:Int))) (Dt.ite (inB (IntKind.wrap .i64 (v.2.1 - (1:Int))) (List.length v.1)) (Dt.bnd (C.1 (((elt ziii v.1 ((IntKind.wrap .i64 (v.2.1 - (1:Int)))).toNat).1, (elt ziii v.1 ((IntKind.wrap .i64 (v.2.1 - (1:Int)))).toNat).2.1, ()), (v.2.2.2.2.2.2.1, v.2.2.2.2.2.2.2.1, ()), ())) fun r1 => (Dt.ite (decide (r1 ≥ (0:Int))) (Dt.ret (v.1, v.2.2.1, v.2.2.2.1, v.2.2.2.2.1, true)) (Dt.ite (inB (IntKind.wrap .i64 (v.2.1 - (1:Int))) (List.length v.1)) (Dt.ret (v.1, v.2.2.1, v.2.2.2.1, v.2.2.2.2.1, ((elt ziii v.1 ((IntKind.wrap .i64 (v.2.1 - (1:Int)))).toNat).2.2.1 == v.2.2.2.2.2.2.2.2))) Dt.fail))) Dt.fail) (Dt.ret (v.1, v.2.2.1, v.2.2.2.1, v.2.2.2.2.1, false)))
theorem crest_Check_g8 (C : crest_Check_C) (v : crest_Check_Y6) : treg tysT (orc (crest_Check_tab C)) 60 (regO (bodyOf f19) 8) true [(0, (.val Riii)), (13, (.val Riii)), (14, .any), (15, .any), (58, .any)] (crest_Check_S6 v) some = (crest_Check_r8 C v).eval fun y => some (crest_Check_S8 y) := by kernel_rfl
def crest_Check_r9 (C : crest_Check_C) (v : crest_Check_Y8) : Dt crest_Check_Y2 := (Dt.ret (8:Int))
theorem crest_Check_g9 (C : crest_Check_C) (v : crest_Check_Y8) : treg tysT (orc (crest_Check_tab C)) 60 (regO (bodyOf f19) 9) false [(2, .any)] (crest_Check_S8 v) some = (crest_Check_r9 C v).eval fun y => some (crest_Check_S2 y) := by kernel_rfl
def crest_Check_r10 (C : crest_Check_C) (v : crest_Check_Y8) : Dt crest_Check_Y3 := (Dt.ret (v.1, v.2.1, v.2.2.1, (IntKind.wrap .i64 (v.2.2.2.1 + (1:Int)))))
theorem crest_Check_g10 (C : crest_Check_C) (v : crest_Check_Y8) : treg tysT (orc (crest_Check_tab C)) 60 (regO (bodyOf f19) 10) false [(0, (.val Riii)), (13, (.val Riii)), (14, .any), (15, .any)] (crest_Check_S8 v) some = (crest_Check_r10 C v).eval fun y => some (crest_Check_S3 y) := by kernel_rfl
def crest_Check_r11 (C : crest_Check_C) (v : crest_Check_Y4) : Dt crest_Check_Y2 := (Dt.ret (0:Int))
theorem crest_Check_g11 (C : crest_Check_C) (v : crest_Check_Y4) : treg tysT (orc (crest_Check_tab C)) 60 (regO (bodyOf f19) 11) false [(2, .any)] (crest_Check_S4 v) some = (crest_Check_r11 C v).eval fun y => some (crest_Check_S2 y) := by kernel_rfl
def crest_Check_L1 (d : Nat) (self1 : (List Diii × List Diii × Int × Int) → Option crest_Check_R) (x1 : List Diii × List Diii × Int × Int) : Option crest_Check_R :=
  (crest_Check_r4 (crest_Check_K d) x1).eval fun y4 =>
  bif y4.2.2.2.2 then ((crest_Check_r5 (crest_Check_K d) y4).eval fun y5 =>
  (crest_Check_r6 (crest_Check_K d) y5).eval fun y6 =>
  bif y6.2.2.2.2.2.1 then ((crest_Check_r7 (crest_Check_K d) y6).eval fun y7 =>
  some y7) else ((crest_Check_r8 (crest_Check_K d) y6).eval fun y8 =>
  bif y8.2.2.2.2 then ((crest_Check_r9 (crest_Check_K d) y8).eval fun y9 =>
  some y9) else ((crest_Check_r10 (crest_Check_K d) y8).eval fun y10 =>
  self1 y10))) else ((crest_Check_r11 (crest_Check_K d) y4).eval fun y11 =>
  some y11)
def F_crest_Check (d : Nat) (x : crest_Check_X) : Option crest_Check_R :=
  (crest_Check_r0 (crest_Check_K d) x.1.1).eval fun y0 =>
  (crest_Check_r1 (crest_Check_K d) y0).eval fun y1 =>
  bif y1.2 then ((crest_Check_r2 (crest_Check_K d) y1).eval fun y2 =>
  some y2) else ((crest_Check_r3 (crest_Check_K d) y1).eval fun y3 =>
  iter (crest_Check_L1 d ) d y3)
theorem crest_Check_cok (d : Nat) : COK prog (crest_Check_sp (F_crest_Check d)) := by
  have hm : prog.follows .mixedOrders = true := mixed
  have hT := tys
  have hC0 : OrcOK prog (orc (crest_Check_tab (crest_Check_K d))) := orc_ok (by
    intro S hS
    simp only [crest_Check_tab, List.mem_cons, List.not_mem_nil, or_false] at hS
    rcases hS with rfl | rfl
    · exact crest_compare_cok d
    · exact ratio_Check_cok d)
  have hC : OrcOK prog (orc (crest_Check_tab (crest_Check_K d))) := hC0
  refine cok_of (c := bodyOf f19) (fn := f19) hT (by kernel_rfl) (by kernel_rfl) (by decide) fun x r h w0 φ0 Q hend => ?_
  replace h : F_crest_Check d x = some r := h
  unfold F_crest_Check at h
  show Run prog w0 φ0 60 (bodyOf f19) ⟨[(0, .fz Riii x.1.1)], []⟩ Q
  refine run_seq ?_
  refine run_reg hm hT hC (crest_Check_g0 (crest_Check_K d) x.1.1) h ?_
  intro y0 h
  refine cn_then ?_
  refine run_seq ?_
  refine run_seq ?_
  refine run_reg hm hT hC (crest_Check_g1 (crest_Check_K d) y0) h ?_
  intro y1 h
  refine cn_then ?_
  refine run_cond (v := y1.2) (by kernel_rfl) h ?_ ?_
  ·
    intro h
    refine run_seq ?_
    refine run_reg hm hT hC (crest_Check_g2 (crest_Check_K d) y1) h ?_
    intro y2 h
    refine cn_then ?_
    refine run_ret ?_
    refine cn_then_ret ?_
    cases h
    exact (hend _ (by kernel_rfl)).2
  ·
    intro h
    refine run_skip ?_
    refine cn_then ?_
    refine run_seq ?_
    refine run_seq ?_
    refine run_reg hm hT hC (crest_Check_g3 (crest_Check_K d) y1) h ?_
    intro y3 h
    refine cn_then ?_
    refine run_block ?_
    refine run_loop (G := iter (crest_Check_L1 d )) (S := (fun x1 => ⟨[(0, .fz Riii x1.1), (13, .fz Riii x1.2.1), (14, .int .i64 x1.2.2.1), (15, .int .i64 x1.2.2.2)], []⟩ : List Diii × List Diii × Int × Int → St)) (fun _ => rfl) ?_ d _ h
    intro n1 x1 h K1 hn1
    replace h : crest_Check_L1 d  (iter (crest_Check_L1 d ) n1) x1 = some r := h
    generalize iter (crest_Check_L1 d ) n1 = self1 at h hn1
    unfold crest_Check_L1 at h
    refine run_seq ?_
    refine run_reg hm hT hC (crest_Check_g4 (crest_Check_K d) x1) h ?_
    intro y4 h
    refine cn_then ?_
    refine run_seq ?_
    refine run_cond (v := y4.2.2.2.2) (by kernel_rfl) h ?_ ?_
    ·
      intro h
      refine run_skip ?_
      refine cn_then ?_
      refine run_seq ?_
      refine run_block ?_
      refine run_seq ?_
      refine run_reg hm hT hC (crest_Check_g5 (crest_Check_K d) y4) h ?_
      intro y5 h
      refine cn_then ?_
      refine run_seq ?_
      refine run_seq ?_
      refine run_reg hm hT hC (crest_Check_g6 (crest_Check_K d) y5) h ?_
      intro y6 h
      refine cn_then ?_
      refine run_cond (v := y6.2.2.2.2.2.1) (by kernel_rfl) h ?_ ?_
      ·
        intro h
        refine run_seq ?_
        refine run_reg hm hT hC (crest_Check_g7 (crest_Check_K d) y6) h ?_
        intro y7 h
        refine cn_then ?_
        refine run_ret ?_
        refine cn_then_ret ?_
        refine cn_blk_ret ?_
        refine cn_then_ret ?_
        refine cn_then_ret ?_
        refine cn_blk_ret ?_
        refine cn_then_ret ?_
        cases h
        exact (hend _ (by kernel_rfl)).2
      ·
        intro h
        refine run_skip ?_
        refine cn_then ?_
        refine run_seq ?_
        refine run_reg hm hT hC (crest_Check_g8 (crest_Check_K d) y6) h ?_
        intro y8 h
        refine cn_then ?_
        refine run_cond (v := y8.2.2.2.2) (by kernel_rfl) h ?_ ?_
        ·
          intro h
          refine run_seq ?_
          refine run_reg hm hT hC (crest_Check_g9 (crest_Check_K d) y8) h ?_
          intro y9 h
          refine cn_then ?_
          refine run_ret ?_
          refine cn_blk_ret ?_
          refine cn_then_ret ?_
          refine cn_then_ret ?_
          refine cn_blk_ret ?_
          refine cn_then_ret ?_
          cases h
          exact (hend _ (by kernel_rfl)).2
        ·
          intro h
          refine run_skip ?_
          refine cn_blk ?_
          refine cn_then ?_
          refine run_reg hm hT hC (crest_Check_g10 (crest_Check_K d) y8) h ?_
          intro y10 h
          exact hn1 _ h
    ·
      intro h
      refine run_exit ?_
      refine cn_then_exit ?_
      refine cn_then_exit ?_
      refine cn_blk_eq ?_
      refine cn_then ?_
      refine run_seq ?_
      refine run_reg hm hT hC (crest_Check_g11 (crest_Check_K d) y4) h ?_
      intro y11 h
      refine cn_then ?_
      refine run_ret ?_
      cases h
      exact (hend _ (by kernel_rfl)).2
abbrev crest_place_1_ps : List Pk := [.row Riii true, .row Rii true]
abbrev crest_place_1_X : Type := Diii × Dii × Unit
abbrev crest_place_1_R : Type := Int
def crest_place_1_enc (r : crest_place_1_R) : LV × List Ob := (.int .i64 r, [])
def crest_place_1_sp (F : crest_place_1_X → Option crest_place_1_R) : Go.Tx.Spec := ⟨81, crest_place_1_ps, crest_place_1_R, F, crest_place_1_enc⟩
abbrev crest_place_1_C : Type := (crest_compare_X → Option crest_compare_R) × Unit
def crest_place_1_K (d : Nat) : crest_place_1_C := (F_crest_compare d, ())
def crest_place_1_tab (C : crest_place_1_C) : List Go.Tx.Spec := [crest_compare_sp C.1]
abbrev crest_place_1_Y0i : Type := Int × Int × Int × Int × Int
def crest_place_1_S0i (v : crest_place_1_Y0i) : St := ⟨[(0, .agg [.int .i64 v.1, .int .i64 v.2.1, .int .i64 v.2.2.1]), (1, .agg [.int .i64 v.2.2.2.1, .int .i64 v.2.2.2.2])], []⟩
abbrev crest_place_1_Y0 : Type := Int × Int × Int × Int × Int
def crest_place_1_S0 (v : crest_place_1_Y0) : St := ⟨[(2, .ptr 0 0), (3, .ptr 1 0)], [.cells [.int .i64 v.1, .int .i64 v.2.1, .int .i64 v.2.2.1], .cells [.int .i64 v.2.2.2.1, .int .i64 v.2.2.2.2]]⟩
def crest_place_1_r0 (C : crest_place_1_C) (v : crest_place_1_Y0i) : Dt crest_place_1_Y0 := (Dt.ret (v.1, v.2.1, v.2.2.1, v.2.2.2.1, v.2.2.2.2))
theorem crest_place_1_g0 (C : crest_place_1_C) (v : crest_place_1_Y0i) : treg tysT (orc (crest_place_1_tab C)) 9 (regO (bodyOf f81) 0) false [(2, .any), (3, .any)] (crest_place_1_S0i v) some = (crest_place_1_r0 C v).eval fun y => some (crest_place_1_S0 y) := by kernel_rfl
abbrev crest_place_1_Y1 : Type := Int
def crest_place_1_S1 (v : crest_place_1_Y1) : St := ⟨[(4, .int .i64 v)], []⟩
def crest_place_1_r1 (C : crest_place_1_C) (v : crest_place_1_Y0) : Dt crest_place_1_Y1 := (Dt.bnd (C.1 ((v.1, v.2.1, ()), (v.2.2.2.1, v.2.2.2.2, ()), ())) fun r1 => (Dt.ret r1))
theorem crest_place_1_g1 (C : crest_place_1_C) (v : crest_place_1_Y0) : treg tysT (orc (crest_place_1_tab C)) 9 (regO (bodyOf f81) 1) false [(4, .any)] (crest_place_1_S0 v) some = (crest_place_1_r1 C v).eval fun y => some (crest_place_1_S1 y) := by kernel_rfl
def F_crest_place_1 (d : Nat) (x : crest_place_1_X) : Option crest_place_1_R :=
  (crest_place_1_r0 (crest_place_1_K d) (x.1.1, x.1.2.1, x.1.2.2.1, x.2.1.1, x.2.1.2.1)).eval fun y0 =>
  (crest_place_1_r1 (crest_place_1_K d) y0).eval fun y1 =>
  some y1
theorem crest_place_1_cok (d : Nat) : COK prog (crest_place_1_sp (F_crest_place_1 d)) := by
  have hm : prog.follows .mixedOrders = true := mixed
  have hT := tys
  have hC0 : OrcOK prog (orc (crest_place_1_tab (crest_place_1_K d))) := orc_ok (by
    intro S hS
    simp only [crest_place_1_tab, List.mem_cons, List.not_mem_nil, or_false] at hS
    subst hS; exact crest_compare_cok d)
  have hC : OrcOK prog (orc (crest_place_1_tab (crest_place_1_K d))) := hC0
  refine cok_of (c := bodyOf f81) (fn := f81) hT (by kernel_rfl) (by kernel_rfl) (by decide) fun x r h w0 φ0 Q hend => ?_
  replace h : F_crest_place_1 d x = some r := h
  unfold F_crest_place_1 at h
  show Run prog w0 φ0 9 (bodyOf f81) ⟨[(0, .agg [.int .i64 x.1.1, .int .i64 x.1.2.1, .int .i64 x.1.2.2.1]), (1, .agg [.int .i64 x.2.1.1, .int .i64 x.2.1.2.1])], []⟩ Q
  refine run_seq ?_
  refine run_reg hm hT hC (crest_place_1_g0 (crest_place_1_K d) (x.1.1, x.1.2.1, x.1.2.2.1, x.2.1.1, x.2.1.2.1)) h ?_
  intro y0 h
  refine cn_then ?_
  refine run_seq ?_
  refine run_reg hm hT hC (crest_place_1_g1 (crest_place_1_K d) y0) h ?_
  intro y1 h
  refine cn_then ?_
  refine run_ret ?_
  cases h
  exact (hend _ (by kernel_rfl)).2
abbrev slices_BinarySearchFunc_api_Lead_api_Lead_api_Ratio_at_crest_place_1_ps : List Pk := [.row RLiiiE false, .row Rii true, .fn 81 []]
abbrev slices_BinarySearchFunc_api_Lead_api_Lead_api_Ratio_at_crest_place_1_X : Type := DLiiiE × Dii × (Unit) × Unit
abbrev slices_BinarySearchFunc_api_Lead_api_Lead_api_Ratio_at_crest_place_1_R : Type := Int × Bool
def slices_BinarySearchFunc_api_Lead_api_Lead_api_Ratio_at_crest_place_1_enc (r : slices_BinarySearchFunc_api_Lead_api_Lead_api_Ratio_at_crest_place_1_R) : LV × List Ob := (.tup [.int .i64 r.1, .bool r.2], [])
def slices_BinarySearchFunc_api_Lead_api_Lead_api_Ratio_at_crest_place_1_sp (F : slices_BinarySearchFunc_api_Lead_api_Lead_api_Ratio_at_crest_place_1_X → Option slices_BinarySearchFunc_api_Lead_api_Lead_api_Ratio_at_crest_place_1_R) : Go.Tx.Spec := ⟨80, slices_BinarySearchFunc_api_Lead_api_Lead_api_Ratio_at_crest_place_1_ps, slices_BinarySearchFunc_api_Lead_api_Lead_api_Ratio_at_crest_place_1_R, F, slices_BinarySearchFunc_api_Lead_api_Lead_api_Ratio_at_crest_place_1_enc⟩
abbrev slices_BinarySearchFunc_api_Lead_api_Lead_api_Ratio_at_crest_place_1_C : Type := (crest_place_1_X → Option crest_place_1_R) × Unit
def slices_BinarySearchFunc_api_Lead_api_Lead_api_Ratio_at_crest_place_1_K (d : Nat) : slices_BinarySearchFunc_api_Lead_api_Lead_api_Ratio_at_crest_place_1_C := (F_crest_place_1 d, ())
def slices_BinarySearchFunc_api_Lead_api_Lead_api_Ratio_at_crest_place_1_tab (C : slices_BinarySearchFunc_api_Lead_api_Lead_api_Ratio_at_crest_place_1_C) : List Go.Tx.Spec := [crest_place_1_sp C.1]
abbrev slices_BinarySearchFunc_api_Lead_api_Lead_api_Ratio_at_crest_place_1_Y0i : Type := List Diii × Int × Int
def slices_BinarySearchFunc_api_Lead_api_Lead_api_Ratio_at_crest_place_1_S0i (v : slices_BinarySearchFunc_api_Lead_api_Lead_api_Ratio_at_crest_place_1_Y0i) : St := ⟨[(0, .fz Riii v.1), (1, .agg [.int .i64 v.2.1, .int .i64 v.2.2]), (2, .fn 81 [])], []⟩
abbrev slices_BinarySearchFunc_api_Lead_api_Lead_api_Ratio_at_crest_place_1_Y0 : Type := List Diii × Int × Int
def slices_BinarySearchFunc_api_Lead_api_Lead_api_Ratio_at_crest_place_1_S0 (v : slices_BinarySearchFunc_api_Lead_api_Lead_api_Ratio_at_crest_place_1_Y0) : St := ⟨[(0, .fz Riii v.1), (2, .fn 81 []), (4, .ptr 0 0)], [.cells [.int .i64 v.2.1, .int .i64 v.2.2]]⟩
def slices_BinarySearchFunc_api_Lead_api_Lead_api_Ratio_at_crest_place_1_r0 (C : slices_BinarySearchFunc_api_Lead_api_Lead_api_Ratio_at_crest_place_1_C) (v : slices_BinarySearchFunc_api_Lead_api_Lead_api_Ratio_at_crest_place_1_Y0i) : Dt slices_BinarySearchFunc_api_Lead_api_Lead_api_Ratio_at_crest_place_1_Y0 := (Dt.ret (v.1, v.2.1, v.2.2))
theorem slices_BinarySearchFunc_api_Lead_api_Lead_api_Ratio_at_crest_place_1_g0 (C : slices_BinarySearchFunc_api_Lead_api_Lead_api_Ratio_at_crest_place_1_C) (v : slices_BinarySearchFunc_api_Lead_api_Lead_api_Ratio_at_crest_place_1_Y0i) : treg tysT (orc (slices_BinarySearchFunc_api_Lead_api_Lead_api_Ratio_at_crest_place_1_tab C)) 49 (regO (bodyOf f80) 0) false [(0, (.val Riii)), (2, .any), (4, .any)] (slices_BinarySearchFunc_api_Lead_api_Lead_api_Ratio_at_crest_place_1_S0i v) some = (slices_BinarySearchFunc_api_Lead_api_Lead_api_Ratio_at_crest_place_1_r0 C v).eval fun y => some (slices_BinarySearchFunc_api_Lead_api_Lead_api_Ratio_at_crest_place_1_S0 y) := by kernel_rfl
abbrev slices_BinarySearchFunc_api_Lead_api_Lead_api_Ratio_at_crest_place_1_Y1 : Type := List Diii × Int × Int × Int
def slices_BinarySearchFunc_api_Lead_api_Lead_api_Ratio_at_crest_place_1_S1 (v : slices_BinarySearchFunc_api_Lead_api_Lead_api_Ratio_at_crest_place_1_Y1) : St := ⟨[(0, .fz Riii v.1), (2, .fn 81 []), (4, .ptr 0 0), (8, .int .i64 v.2.1)], [.cells [.int .i64 v.2.2.1, .int .i64 v.2.2.2]]⟩
def slices_BinarySearchFunc_api_Lead_api_Lead_api_Ratio_at_crest_place_1_r1 (C : slices_BinarySearchFunc_api_Lead_api_Lead_api_Ratio_at_crest_place_1_C) (v : slices_BinarySearchFunc_api_Lead_api_Lead_api_Ratio_at_crest_place_1_Y0) : Dt slices_BinarySearchFunc_api_Lead_api_Lead_api_Ratio_at_crest_place_1_Y1 := (Dt.ret (v.1, (List.length v.1 : Int), v.2.1, v.2.2))
theorem slices_BinarySearchFunc_api_Lead_api_Lead_api_Ratio_at_crest_place_1_g1 (C : slices_BinarySearchFunc_api_Lead_api_Lead_api_Ratio_at_crest_place_1_C) (v : slices_BinarySearchFunc_api_Lead_api_Lead_api_Ratio_at_crest_place_1_Y0) : treg tysT (orc (slices_BinarySearchFunc_api_Lead_api_Lead_api_Ratio_at_crest_place_1_tab C)) 49 (regO (bodyOf f80) 1) false [(0, (.val Riii)), (2, .any), (4, .any), (8, .any)] (slices_BinarySearchFunc_api_Lead_api_Lead_api_Ratio_at_crest_place_1_S0 v) some = (slices_BinarySearchFunc_api_Lead_api_Lead_api_Ratio_at_crest_place_1_r1 C v).eval fun y => some (slices_BinarySearchFunc_api_Lead_api_Lead_api_Ratio_at_crest_place_1_S1 y) := by kernel_rfl
abbrev slices_BinarySearchFunc_api_Lead_api_Lead_api_Ratio_at_crest_place_1_Y2 : Type := List Diii × Int × Int × Int × Int × Int
def slices_BinarySearchFunc_api_Lead_api_Lead_api_Ratio_at_crest_place_1_S2 (v : slices_BinarySearchFunc_api_Lead_api_Lead_api_Ratio_at_crest_place_1_Y2) : St := ⟨[(0, .fz Riii v.1), (2, .fn 81 []), (4, .ptr 0 0), (8, .int .i64 v.2.1), (9, .int .i64 v.2.2.1), (10, .int .i64 v.2.2.2.1)], [.cells [.int .i64 v.2.2.2.2.1, .int .i64 v.2.2.2.2.2]]⟩
def slices_BinarySearchFunc_api_Lead_api_Lead_api_Ratio_at_crest_place_1_r2 (C : slices_BinarySearchFunc_api_Lead_api_Lead_api_Ratio_at_crest_place_1_C) (v : slices_BinarySearchFunc_api_Lead_api_Lead_api_Ratio_at_crest_place_1_Y1) : Dt slices_BinarySearchFunc_api_Lead_api_Lead_api_Ratio_at_crest_place_1_Y2 := (Dt.ret (v.1, v.2.1, (0:Int), v.2.1, v.2.2.1, v.2.2.2))
theorem slices_BinarySearchFunc_api_Lead_api_Lead_api_Ratio_at_crest_place_1_g2 (C : slices_BinarySearchFunc_api_Lead_api_Lead_api_Ratio_at_crest_place_1_C) (v : slices_BinarySearchFunc_api_Lead_api_Lead_api_Ratio_at_crest_place_1_Y1) : treg tysT (orc (slices_BinarySearchFunc_api_Lead_api_Lead_api_Ratio_at_crest_place_1_tab C)) 49 (regO (bodyOf f80) 2) false [(0, (.val Riii)), (2, .any), (4, .any), (8, .any), (9, .any), (10, .any)] (slices_BinarySearchFunc_api_Lead_api_Lead_api_Ratio_at_crest_place_1_S1 v) some = (slices_BinarySearchFunc_api_Lead_api_Lead_api_Ratio_at_crest_place_1_r2 C v).eval fun y => some (slices_BinarySearchFunc_api_Lead_api_Lead_api_Ratio_at_crest_place_1_S2 y) := by kernel_rfl
abbrev slices_BinarySearchFunc_api_Lead_api_Lead_api_Ratio_at_crest_place_1_Y3 : Type := List Diii × Int × Int × Int × Bool × Int × Int
def slices_BinarySearchFunc_api_Lead_api_Lead_api_Ratio_at_crest_place_1_S3 (v : slices_BinarySearchFunc_api_Lead_api_Lead_api_Ratio_at_crest_place_1_Y3) : St := ⟨[(0, .fz Riii v.1), (2, .fn 81 []), (4, .ptr 0 0), (8, .int .i64 v.2.1), (9, .int .i64 v.2.2.1), (10, .int .i64 v.2.2.2.1), (17, .bool v.2.2.2.2.1)], [.cells [.int .i64 v.2.2.2.2.2.1, .int .i64 v.2.2.2.2.2.2]]⟩
def slices_BinarySearchFunc_api_Lead_api_Lead_api_Ratio_at_crest_place_1_r3 (C : slices_BinarySearchFunc_api_Lead_api_Lead_api_Ratio_at_crest_place_1_C) (v : slices_BinarySearchFunc_api_Lead_api_Lead_api_Ratio_at_crest_place_1_Y2) : Dt slices_BinarySearchFunc_api_Lead_api_Lead_api_Ratio_at_crest_place_1_Y3 := (Dt.ret (v.1, v.2.1, v.2.2.1, v.2.2.2.1, (decide (v.2.2.1 < v.2.2.2.1)), v.2.2.2.2.1, v.2.2.2.2.2))
theorem slices_BinarySearchFunc_api_Lead_api_Lead_api_Ratio_at_crest_place_1_g3 (C : slices_BinarySearchFunc_api_Lead_api_Lead_api_Ratio_at_crest_place_1_C) (v : slices_BinarySearchFunc_api_Lead_api_Lead_api_Ratio_at_crest_place_1_Y2) : treg tysT (orc (slices_BinarySearchFunc_api_Lead_api_Lead_api_Ratio_at_crest_place_1_tab C)) 49 (regO (bodyOf f80) 3) false [(0, (.val Riii)), (2, .any), (4, .any), (8, .any), (9, .any), (10, .any), (17, .any)] (slices_BinarySearchFunc_api_Lead_api_Lead_api_Ratio_at_crest_place_1_S2 v) some = (slices_BinarySearchFunc_api_Lead_api_Lead_api_Ratio_at_crest_place_1_r3 C v).eval fun y => some (slices_BinarySearchFunc_api_Lead_api_Lead_api_Ratio_at_crest_place_1_S3 y) := by kernel_rfl
abbrev slices_BinarySearchFunc_api_Lead_api_Lead_api_Ratio_at_crest_place_1_Y4 : Type := List Diii × Int × Int × Int × Int × Int × Int
def slices_BinarySearchFunc_api_Lead_api_Lead_api_Ratio_at_crest_place_1_S4 (v : slices_BinarySearchFunc_api_Lead_api_Lead_api_Ratio_at_crest_place_1_Y4) : St := ⟨[(0, .fz Riii v.1), (2, .fn 81 []), (4, .ptr 0 0), (8, .int .i64 v.2.1), (9, .int .i64 v.2.2.1), (10, .int .i64 v.2.2.2.1), (11, .int .i64 v.2.2.2.2.1)], [.cells [.int .i64 v.2.2.2.2.2.1, .int .i64 v.2.2.2.2.2.2]]⟩
def slices_BinarySearchFunc_api_Lead_api_Lead_api_Ratio_at_crest_place_1_r4 (C : slices_BinarySearchFunc_api_Lead_api_Lead_api_Ratio_at_crest_place_1_C) (v : slices_BinarySearchFunc_api_Lead_api_Lead_api_Ratio_at_crest_place_1_Y3) : Dt slices_BinarySearchFunc_api_Lead_api_Lead_api_Ratio_at_crest_place_1_Y4 := (Dt.ret (v.1, v.2.1, v.2.2.1, v.2.2.2.1, (IntKind.wrap .i64 (shrI .u64 (IntKind.wrap .u64 (IntKind.wrap .i64 (v.2.2.1 + v.2.2.2.1))) (1:Int))), v.2.2.2.2.2.1, v.2.2.2.2.2.2))
theorem slices_BinarySearchFunc_api_Lead_api_Lead_api_Ratio_at_crest_place_1_g4 (C : slices_BinarySearchFunc_api_Lead_api_Lead_api_Ratio_at_crest_place_1_C) (v : slices_BinarySearchFunc_api_Lead_api_Lead_api_Ratio_at_crest_place_1_Y3) : treg tysT (orc (slices_BinarySearchFunc_api_Lead_api_Lead_api_Ratio_at_crest_place_1_tab C)) 49 (regO (bodyOf f80) 4) false [(0, (.val Riii)), (2, .any), (4, .any), (8, .any), (9, .any), (10, .any), (11, .any)] (slices_BinarySearchFunc_api_Lead_api_Lead_api_Ratio_at_crest_place_1_S3 v) some = (slices_BinarySearchFunc_api_Lead_api_Lead_api_Ratio_at_crest_place_1_r4 C v).eval fun y => some (slices_BinarySearchFunc_api_Lead_api_Lead_api_Ratio_at_crest_place_1_S4 y) := by kernel_rfl
abbrev slices_BinarySearchFunc_api_Lead_api_Lead_api_Ratio_at_crest_place_1_Y5 : Type := List Diii × Int × Int × Int × Int × Bool × Int × Int
def slices_BinarySearchFunc_api_Lead_api_Lead_api_Ratio_at_crest_place_1_S5 (v : slices_BinarySearchFunc_api_Lead_api_Lead_api_Ratio_at_crest_place_1_Y5) : St := ⟨[(0, .fz Riii v.1), (2, .fn 81 []), (4, .ptr 0 0), (8, .int .i64 v.2.1), (9, .int .i64 v.2.2.1), (10, .int .i64 v.2.2.2.1), (11, .int .i64 v.2.2.2.2.1), (31, .bool v.2.2.2.2.2.1)], [.cells [.int .i64 v.2.2.2.2.2.2.1, .int .i64 v.2.2.2.2.2.2.2]]⟩
def slices_BinarySearchFunc_api_Lead_api_Lead_api_Ratio_at_crest_place_1_r5 (C : slices_BinarySearchFunc_api_Lead_api_Lead_api_Ratio_at_crest_place_1_C) (v : slices_BinarySearchFunc_api_Lead_api_Lead_api_Ratio_at_crest_place_1_Y4) : Dt slices_BinarySearchFunc_api_Lead_api_Lead_api_Ratio_at_crest_place_1_Y5 := (Dt.ite (inB v.2.2.2.2.1 (List.length v.1)) (Dt.bnd (C.1 (((elt ziii v.1 (v.2.2.2.2.1).toNat).1, (elt ziii v.1 (v.2.2.2.2.1).toNat).2.1, (elt ziii v.1 (v.2.2.2.2.1).toNat).2.2.1, ()), (v.2.2.2.2.2.1, v.2.2.2.2.2.2, ()), ())) fun r1 => (Dt.ret (v.1, v.2.1, v.2.2.1, v.2.2.2.1, v.2.2.2.2.1, (decide (r1 < (0:Int))), v.2.2.2.2.2.1, v.2.2.2.2.2.2))) Dt.fail)
theorem slices_BinarySearchFunc_api_Lead_api_Lead_api_Ratio_at_crest_place_1_g5 (C : slices_BinarySearchFunc_api_Lead_api_Lead_api_Ratio_at_crest_place_1_C) (v : slices_BinarySearchFunc_api_Lead_api_Lead_api_Ratio_at_crest_place_1_Y4) : treg tysT (orc (slices_BinarySearchFunc_api_Lead_api_Lead_api_Ratio_at_crest_place_1_tab C)) 49 (regO (bodyOf f80) 5) true [(0, (.val Riii)), (2, .any), (4, .any), (8, .any), (9, .any), (10, .any), (11, .any), (31, .any)] (slices_BinarySearchFunc_api_Lead_api_Lead_api_Ratio_at_crest_place_1_S4 v) some = (slices_BinarySearchFunc_api_Lead_api_Lead_api_Ratio_at_crest_place_1_r5 C v).eval fun y => some (slices_BinarySearchFunc_api_Lead_api_Lead_api_Ratio_at_crest_place_1_S5 y) := by kernel_rfl
def slices_BinarySearchFunc_api_Lead_api_Lead_api_Ratio_at_crest_place_1_r6 (C : slices_BinarySearchFunc_api_Lead_api_Lead_api_Ratio_at_crest_place_1_C) (v : slices_BinarySearchFunc_api_Lead_api_Lead_api_Ratio_at_crest_place_1_Y5) : Dt slices_BinarySearchFunc_api_Lead_api_Lead_api_Ratio_at_crest_place_1_Y2 := (Dt.ret (v.1, v.2.1, (IntKind.wrap .i64 (v.2.2.2.2.1 + (1:Int))), v.2.2.2.1, v.2.2.2.2.2.2.1, v.2.2.2.2.2.2.2))
theorem slices_BinarySearchFunc_api_Lead_api_Lead_api_Ratio_at_crest_place_1_g6 (C : slices_BinarySearchFunc_api_Lead_api_Lead_api_Ratio_at_crest_place_1_C) (v : slices_BinarySearchFunc_api_Lead_api_Lead_api_Ratio_at_crest_place_1_Y5) : treg tysT (orc (slices_BinarySearchFunc_api_Lead_api_Lead_api_Ratio_at_crest_place_1_tab C)) 49 (regO (bodyOf f80) 6) false [(0, (.val Riii)), (2, .any), (4, .any), (8, .any), (9, .any), (10, .any)] (slices_BinarySearchFunc_api_Lead_api_Lead_api_Ratio_at_crest_place_1_S5 v) some = (slices_BinarySearchFunc_api_Lead_api_Lead_api_Ratio_at_crest_place_1_r6 C v).eval fun y => some (slices_BinarySearchFunc_api_Lead_api_Lead_api_Ratio_at_crest_place_1_S2 y) := by kernel_rfl
def slices_BinarySearchFunc_api_Lead_api_Lead_api_Ratio_at_crest_place_1_r7 (C : slices_BinarySearchFunc_api_Lead_api_Lead_api_Ratio_at_crest_place_1_C) (v : slices_BinarySearchFunc_api_Lead_api_Lead_api_Ratio_at_crest_place_1_Y5) : Dt slices_BinarySearchFunc_api_Lead_api_Lead_api_Ratio_at_crest_place_1_Y2 := (Dt.ret (v.1, v.2.1, v.2.2.1, v.2.2.2.2.1, v.2.2.2.2.2.2.1, v.2.2.2.2.2.2.2))
theorem slices_BinarySearchFunc_api_Lead_api_Lead_api_Ratio_at_crest_place_1_g7 (C : slices_BinarySearchFunc_api_Lead_api_Lead_api_Ratio_at_crest_place_1_C) (v : slices_BinarySearchFunc_api_Lead_api_Lead_api_Ratio_at_crest_place_1_Y5) : treg tysT (orc (slices_BinarySearchFunc_api_Lead_api_Lead_api_Ratio_at_crest_place_1_tab C)) 49 (regO (bodyOf f80) 7) false [(0, (.val Riii)), (2, .any), (4, .any), (8, .any), (9, .any), (10, .any)] (slices_BinarySearchFunc_api_Lead_api_Lead_api_Ratio_at_crest_place_1_S5 v) some = (slices_BinarySearchFunc_api_Lead_api_Lead_api_Ratio_at_crest_place_1_r7 C v).eval fun y => some (slices_BinarySearchFunc_api_Lead_api_Lead_api_Ratio_at_crest_place_1_S2 y) := by kernel_rfl
abbrev slices_BinarySearchFunc_api_Lead_api_Lead_api_Ratio_at_crest_place_1_Y8 : Type := Int × Bool
def slices_BinarySearchFunc_api_Lead_api_Lead_api_Ratio_at_crest_place_1_S8 (v : slices_BinarySearchFunc_api_Lead_api_Lead_api_Ratio_at_crest_place_1_Y8) : St := ⟨[(6, .int .i64 v.1), (7, .bool v.2)], []⟩
def slices_BinarySearchFunc_api_Lead_api_Lead_api_Ratio_at_crest_place_1_r8 (C : slices_BinarySearchFunc_api_Lead_api_Lead_api_Ratio_at_crest_place_1_C) (v : slices_BinarySearchFunc_api_Lead_api_Lead_api_Ratio_at_crest_place_1_Y3) : Dt slices_BinarySearchFunc_api_Lead_api_Lead_api_Ratio_at_crest_place_1_Y8 := (Dt.ite (decide (v.2.2.1 < v.2.1)) (Dt.ite (inB v.2.2.1 (List.length v.1)) (Dt.bnd (C.1 (((elt ziii v.1 (v.2.2.1).toNat).1, (elt ziii v.1 (v.2.2.1).toNat).2.1, (elt ziii v.1 (v.2.2.1).toNat).2.2.1, ()), (v.2.2.2.2.2.1, v.2.2.2.2.2.2, ()), ())) fun r1 => (Dt.ret (v.2.2.1, (r1 == (0:Int))))) Dt.fail) (Dt.ret (v.2.2.1, false)))
theorem slices_BinarySearchFunc_api_Lead_api_Lead_api_Ratio_at_crest_place_1_g8 (C : slices_BinarySearchFunc_api_Lead_api_Lead_api_Ratio_at_crest_place_1_C) (v : slices_BinarySearchFunc_api_Lead_api_Lead_api_Ratio_at_crest_place_1_Y3) : treg tysT (orc (slices_BinarySearchFunc_api_Lead_api_Lead_api_Ratio_at_crest_place_1_tab C)) 49 (regO (bodyOf f80) 8) true [(6, .any), (7, .any)] (slices_BinarySearchFunc_api_Lead_api_Lead_api_Ratio_at_crest_place_1_S3 v) some = (slices_BinarySearchFunc_api_Lead_api_Lead_api_Ratio_at_crest_place_1_r8 C v).eval fun y => some (slices_BinarySearchFunc_api_Lead_api_Lead_api_Ratio_at_crest_place_1_S8 y) := by kernel_rfl
def slices_BinarySearchFunc_api_Lead_api_Lead_api_Ratio_at_crest_place_1_L1 (d : Nat) (self1 : (List Diii × Int × Int × Int × Int × Int) → Option slices_BinarySearchFunc_api_Lead_api_Lead_api_Ratio_at_crest_place_1_R) (x1 : List Diii × Int × Int × Int × Int × Int) : Option slices_BinarySearchFunc_api_Lead_api_Lead_api_Ratio_at_crest_place_1_R :=
  (slices_BinarySearchFunc_api_Lead_api_Lead_api_Ratio_at_crest_place_1_r3 (slices_BinarySearchFunc_api_Lead_api_Lead_api_Ratio_at_crest_place_1_K d) x1).eval fun y3 =>
  bif y3.2.2.2.2.1 then ((slices_BinarySearchFunc_api_Lead_api_Lead_api_Ratio_at_crest_place_1_r4 (slices_BinarySearchFunc_api_Lead_api_Lead_api_Ratio_at_crest_place_1_K d) y3).eval fun y4 =>
  (slices_BinarySearchFunc_api_Lead_api_Lead_api_Ratio_at_crest_place_1_r5 (slices_BinarySearchFunc_api_Lead_api_Lead_api_Ratio_at_crest_place_1_K d) y4).eval fun y5 =>
  bif y5.2.2.2.2.2.1 then ((slices_BinarySearchFunc_api_Lead_api_Lead_api_Ratio_at_crest_place_1_r6 (slices_BinarySearchFunc_api_Lead_api_Lead_api_Ratio_at_crest_place_1_K d) y5).eval fun y6 =>
  self1 y6) else ((slices_BinarySearchFunc_api_Lead_api_Lead_api_Ratio_at_crest_place_1_r7 (slices_BinarySearchFunc_api_Lead_api_Lead_api_Ratio_at_crest_place_1_K d) y5).eval fun y7 =>
  self1 y7)) else ((slices_BinarySearchFunc_api_Lead_api_Lead_api_Ratio_at_crest_place_1_r8 (slices_BinarySearchFunc_api_Lead_api_Lead_api_Ratio_at_crest_place_1_K d) y3).eval fun y8 =>
  some y8)
def F_slices_BinarySearchFunc_api_Lead_api_Lead_api_Ratio_at_crest_place_1 (d : Nat) (x : slices_BinarySearchFunc_api_Lead_api_Lead_api_Ratio_at_crest_place_1_X) : Option slices_BinarySearchFunc_api_Lead_api_Lead_api_Ratio_at_crest_place_1_R :=
  (slices_BinarySearchFunc_api_Lead_api_Lead_api_Ratio_at_crest_place_1_r0 (slices_BinarySearchFunc_api_Lead_api_Lead_api_Ratio_at_crest_place_1_K d) (x.1.1, x.2.1.1, x.2.1.2.1)).eval fun y0 =>
  (slices_BinarySearchFunc_api_Lead_api_Lead_api_Ratio_at_crest_place_1_r1 (slices_BinarySearchFunc_api_Lead_api_Lead_api_Ratio_at_crest_place_1_K d) y0).eval fun y1 =>
  (slices_BinarySearchFunc_api_Lead_api_Lead_api_Ratio_at_crest_place_1_r2 (slices_BinarySearchFunc_api_Lead_api_Lead_api_Ratio_at_crest_place_1_K d) y1).eval fun y2 =>
  iter (slices_BinarySearchFunc_api_Lead_api_Lead_api_Ratio_at_crest_place_1_L1 d ) d y2
theorem slices_BinarySearchFunc_api_Lead_api_Lead_api_Ratio_at_crest_place_1_cok (d : Nat) : COK prog (slices_BinarySearchFunc_api_Lead_api_Lead_api_Ratio_at_crest_place_1_sp (F_slices_BinarySearchFunc_api_Lead_api_Lead_api_Ratio_at_crest_place_1 d)) := by
  have hm : prog.follows .mixedOrders = true := mixed
  have hT := tys
  have hC0 : OrcOK prog (orc (slices_BinarySearchFunc_api_Lead_api_Lead_api_Ratio_at_crest_place_1_tab (slices_BinarySearchFunc_api_Lead_api_Lead_api_Ratio_at_crest_place_1_K d))) := orc_ok (by
    intro S hS
    simp only [slices_BinarySearchFunc_api_Lead_api_Lead_api_Ratio_at_crest_place_1_tab, List.mem_cons, List.not_mem_nil, or_false] at hS
    subst hS; exact crest_place_1_cok d)
  have hC : OrcOK prog (orc (slices_BinarySearchFunc_api_Lead_api_Lead_api_Ratio_at_crest_place_1_tab (slices_BinarySearchFunc_api_Lead_api_Lead_api_Ratio_at_crest_place_1_K d))) := hC0
  refine cok_of (c := bodyOf f80) (fn := f80) hT (by kernel_rfl) (by kernel_rfl) (by decide) fun x r h w0 φ0 Q hend => ?_
  replace h : F_slices_BinarySearchFunc_api_Lead_api_Lead_api_Ratio_at_crest_place_1 d x = some r := h
  unfold F_slices_BinarySearchFunc_api_Lead_api_Lead_api_Ratio_at_crest_place_1 at h
  show Run prog w0 φ0 49 (bodyOf f80) ⟨[(0, .fz Riii x.1.1), (1, .agg [.int .i64 x.2.1.1, .int .i64 x.2.1.2.1]), (2, .fn 81 [])], []⟩ Q
  refine run_seq ?_
  refine run_reg hm hT hC (slices_BinarySearchFunc_api_Lead_api_Lead_api_Ratio_at_crest_place_1_g0 (slices_BinarySearchFunc_api_Lead_api_Lead_api_Ratio_at_crest_place_1_K d) (x.1.1, x.2.1.1, x.2.1.2.1)) h ?_
  intro y0 h
  refine cn_then ?_
  refine run_seq ?_
  refine run_reg hm hT hC (slices_BinarySearchFunc_api_Lead_api_Lead_api_Ratio_at_crest_place_1_g1 (slices_BinarySearchFunc_api_Lead_api_Lead_api_Ratio_at_crest_place_1_K d) y0) h ?_
  intro y1 h
  refine cn_then ?_
  refine run_seq ?_
  refine run_reg hm hT hC (slices_BinarySearchFunc_api_Lead_api_Lead_api_Ratio_at_crest_place_1_g2 (slices_BinarySearchFunc_api_Lead_api_Lead_api_Ratio_at_crest_place_1_K d) y1) h ?_
  intro y2 h
  refine cn_then ?_
  refine run_seq ?_
  refine run_block ?_
  refine run_loop (G := iter (slices_BinarySearchFunc_api_Lead_api_Lead_api_Ratio_at_crest_place_1_L1 d )) (S := (fun x1 => ⟨[(0, .fz Riii x1.1), (2, .fn 81 []), (4, .ptr 0 0), (8, .int .i64 x1.2.1), (9, .int .i64 x1.2.2.1), (10, .int .i64 x1.2.2.2.1)], [.cells [.int .i64 x1.2.2.2.2.1, .int .i64 x1.2.2.2.2.2]]⟩ : List Diii × Int × Int × Int × Int × Int → St)) (fun _ => rfl) ?_ d _ h
  intro n1 x1 h K1 hn1
  replace h : slices_BinarySearchFunc_api_Lead_api_Lead_api_Ratio_at_crest_place_1_L1 d  (iter (slices_BinarySearchFunc_api_Lead_api_Lead_api_Ratio_at_crest_place_1_L1 d ) n1) x1 = some r := h
  generalize iter (slices_BinarySearchFunc_api_Lead_api_Lead_api_Ratio_at_crest_place_1_L1 d ) n1 = self1 at h hn1
  unfold slices_BinarySearchFunc_api_Lead_api_Lead_api_Ratio_at_crest_place_1_L1 at h
  refine run_seq ?_
  refine run_seq ?_
  refine run_reg hm hT hC (slices_BinarySearchFunc_api_Lead_api_Lead_api_Ratio_at_crest_place_1_g3 (slices_BinarySearchFunc_api_Lead_api_Lead_api_Ratio_at_crest_place_1_K d) x1) h ?_
  intro y3 h
  refine cn_then ?_
  refine run_cond (v := y3.2.2.2.2.1) (by kernel_rfl) h ?_ ?_
  ·
    intro h
    refine run_skip ?_
    refine cn_then ?_
    refine run_block ?_
    refine run_seq ?_
    refine run_reg hm hT hC (slices_BinarySearchFunc_api_Lead_api_Lead_api_Ratio_at_crest_place_1_g4 (slices_BinarySearchFunc_api_Lead_api_Lead_api_Ratio_at_crest_place_1_K d) y3) h ?_
    intro y4 h
    refine cn_then ?_
    refine run_seq ?_
    refine run_reg hm hT hC (slices_BinarySearchFunc_api_Lead_api_Lead_api_Ratio_at_crest_place_1_g5 (slices_BinarySearchFunc_api_Lead_api_Lead_api_Ratio_at_crest_place_1_K d) y4) h ?_
    intro y5 h
    refine cn_then ?_
    refine run_cond (v := y5.2.2.2.2.2.1) (by kernel_rfl) h ?_ ?_
    ·
      intro h
      refine run_reg hm hT hC (slices_BinarySearchFunc_api_Lead_api_Lead_api_Ratio_at_crest_place_1_g6 (slices_BinarySearchFunc_api_Lead_api_Lead_api_Ratio_at_crest_place_1_K d) y5) h ?_
      intro y6 h
      refine cn_blk ?_
      exact hn1 _ h
    ·
      intro h
      refine run_reg hm hT hC (slices_BinarySearchFunc_api_Lead_api_Lead_api_Ratio_at_crest_place_1_g7 (slices_BinarySearchFunc_api_Lead_api_Lead_api_Ratio_at_crest_place_1_K d) y5) h ?_
      intro y7 h
      refine cn_blk ?_
      exact hn1 _ h
  ·
    intro h
    refine run_exit ?_
    refine cn_then_exit ?_
    refine cn_then_exit ?_
    refine cn_blk_eq ?_
    refine cn_then ?_
    refine run_seq ?_
    refine run_reg hm hT hC (slices_BinarySearchFunc_api_Lead_api_Lead_api_Ratio_at_crest_place_1_g8 (slices_BinarySearchFunc_api_Lead_api_Lead_api_Ratio_at_crest_place_1_K d) y3) h ?_
    intro y8 h
    refine cn_then ?_
    refine run_ret ?_
    cases h
    exact (hend _ (by kernel_rfl)).2
abbrev crest_place_ps : List Pk := [.row RLiiiE false, .row Rii true]
abbrev crest_place_X : Type := DLiiiE × Dii × Unit
abbrev crest_place_R : Type := Int
def crest_place_enc (r : crest_place_R) : LV × List Ob := (.int .i64 r, [])
def crest_place_sp (F : crest_place_X → Option crest_place_R) : Go.Tx.Spec := ⟨52, crest_place_ps, crest_place_R, F, crest_place_enc⟩
abbrev crest_place_C : Type := (slices_BinarySearchFunc_api_Lead_api_Lead_api_Ratio_at_crest_place_1_X → Option slices_BinarySearchFunc_api_Lead_api_Lead_api_Ratio_at_crest_place_1_R) × Unit
def crest_place_K (d : Nat) : crest_place_C := (F_slices_BinarySearchFunc_api_Lead_api_Lead_api_Ratio_at_crest_place_1 d, ())
def crest_place_tab (C : crest_place_C) : List Go.Tx.Spec := [slices_BinarySearchFunc_api_Lead_api_Lead_api_Ratio_at_crest_place_1_sp C.1]
abbrev crest_place_Y0i : Type := List Diii × Int × Int
def crest_place_S0i (v : crest_place_Y0i) : St := ⟨[(0, .fz Riii v.1), (1, .agg [.int .i64 v.2.1, .int .i64 v.2.2])], []⟩
abbrev crest_place_Y0 : Type := List Diii × Int × Int
def crest_place_S0 (v : crest_place_Y0) : St := ⟨[(0, .fz Riii v.1), (3, .ptr 0 0)], [.cells [.int .i64 v.2.1, .int .i64 v.2.2]]⟩
def crest_place_r0 (C : crest_place_C) (v : crest_place_Y0i) : Dt crest_place_Y0 := (Dt.ret (v.1, v.2.1, v.2.2))
theorem crest_place_g0 (C : crest_place_C) (v : crest_place_Y0i) : treg tysT (orc (crest_place_tab C)) 18 (regO (bodyOf f52) 0) false [(0, (.val Riii)), (3, .any)] (crest_place_S0i v) some = (crest_place_r0 C v).eval fun y => some (crest_place_S0 y) := by kernel_rfl
abbrev crest_place_Y1 : Type := Int × Bool
def crest_place_S1 (v : crest_place_Y1) : St := ⟨[(5, .int .i64 v.1), (6, .bool v.2)], []⟩
def crest_place_r1 (C : crest_place_C) (v : crest_place_Y0) : Dt crest_place_Y1 := (Dt.bnd (C.1 ((v.1, ()), (v.2.1, v.2.2, ()), (()), ())) fun r1 => (Dt.ret (r1.1, r1.2)))
theorem crest_place_g1 (C : crest_place_C) (v : crest_place_Y0) : treg tysT (orc (crest_place_tab C)) 18 (regO (bodyOf f52) 1) false [(5, .any), (6, .any)] (crest_place_S0 v) some = (crest_place_r1 C v).eval fun y => some (crest_place_S1 y) := by kernel_rfl
abbrev crest_place_Y2 : Type := Int × Bool
def crest_place_S2 (v : crest_place_Y2) : St := ⟨[(5, .int .i64 v.1), (14, .bool v.2)], []⟩
def crest_place_r2 (C : crest_place_C) (v : crest_place_Y1) : Dt crest_place_Y2 := (Dt.ret (v.1, (!v.2)))
theorem crest_place_g2 (C : crest_place_C) (v : crest_place_Y1) : treg tysT (orc (crest_place_tab C)) 18 (regO (bodyOf f52) 2) false [(5, .any), (14, .any)] (crest_place_S1 v) some = (crest_place_r2 C v).eval fun y => some (crest_place_S2 y) := by kernel_rfl
abbrev crest_place_Y3 : Type := Int
def crest_place_S3 (v : crest_place_Y3) : St := ⟨[(5, .int .i64 v)], []⟩
def crest_place_r3 (C : crest_place_C) (v : crest_place_Y2) : Dt crest_place_Y3 := (Dt.ret (IntKind.wrap .i64 (v.1 - (1:Int))))
theorem crest_place_g3 (C : crest_place_C) (v : crest_place_Y2) : treg tysT (orc (crest_place_tab C)) 18 (regO (bodyOf f52) 3) false [(5, .any)] (crest_place_S2 v) some = (crest_place_r3 C v).eval fun y => some (crest_place_S3 y) := by kernel_rfl
abbrev crest_place_Y4 : Type := Int
def crest_place_S4 (v : crest_place_Y4) : St := ⟨[(4, .int .i64 v)], []⟩
def crest_place_r4 (C : crest_place_C) (v : crest_place_Y3) : Dt crest_place_Y4 := (Dt.ret v)
theorem crest_place_g4 (C : crest_place_C) (v : crest_place_Y3) : treg tysT (orc (crest_place_tab C)) 18 (regO (bodyOf f52) 4) false [(4, .any)] (crest_place_S3 v) some = (crest_place_r4 C v).eval fun y => some (crest_place_S4 y) := by kernel_rfl
def crest_place_J1  (d : Nat)  (z : Int) : Option (crest_place_R) :=
  (crest_place_r4 (crest_place_K d) z).eval fun y4 =>
  some y4
def F_crest_place (d : Nat) (x : crest_place_X) : Option crest_place_R :=
  (crest_place_r0 (crest_place_K d) (x.1.1, x.2.1.1, x.2.1.2.1)).eval fun y0 =>
  (crest_place_r1 (crest_place_K d) y0).eval fun y1 =>
  (crest_place_r2 (crest_place_K d) y1).eval fun y2 =>
  bif y2.2 then ((crest_place_r3 (crest_place_K d) y2).eval fun y3 =>
  crest_place_J1 d  y3) else (crest_place_J1 d  y2.1)
theorem crest_place_cok (d : Nat) : COK prog (crest_place_sp (F_crest_place d)) := by
  have hm : prog.follows .mixedOrders = true := mixed
  have hT := tys
  have hC0 : OrcOK prog (orc (crest_place_tab (crest_place_K d))) := orc_ok (by
    intro S hS
    simp only [crest_place_tab, List.mem_cons, List.not_mem_nil, or_false] at hS
    subst hS; exact slices_BinarySearchFunc_api_Lead_api_Lead_api_Ratio_at_crest_place_1_cok d)
  have hC : OrcOK prog (orc (crest_place_tab (crest_place_K d))) := hC0
  refine cok_of (c := bodyOf f52) (fn := f52) hT (by kernel_rfl) (by kernel_rfl) (by decide) fun x r h w0 φ0 Q hend => ?_
  replace h : F_crest_place d x = some r := h
  unfold F_crest_place at h
  show Run prog w0 φ0 18 (bodyOf f52) ⟨[(0, .fz Riii x.1.1), (1, .agg [.int .i64 x.2.1.1, .int .i64 x.2.1.2.1])], []⟩ Q
  refine run_seq ?_
  refine run_reg hm hT hC (crest_place_g0 (crest_place_K d) (x.1.1, x.2.1.1, x.2.1.2.1)) h ?_
  intro y0 h
  refine cn_then ?_
  refine run_seq ?_
  refine run_reg hm hT hC (crest_place_g1 (crest_place_K d) y0) h ?_
  intro y1 h
  refine cn_then ?_
  refine run_join (r := r) (F := crest_place_J1 d ) (S := (fun z => ⟨[(5, .int .i64 z)], []⟩ : Int → St)) ?_ ?_
  ·
    intro z h
    unfold crest_place_J1 at h
    refine run_seq ?_
    refine run_reg hm hT hC (crest_place_g4 (crest_place_K d) z) h ?_
    intro y4 h
    refine cn_then ?_
    refine run_ret ?_
    cases h
    exact (hend _ (by kernel_rfl)).2
  intro hj1
  refine run_seq ?_
  refine run_reg hm hT hC (crest_place_g2 (crest_place_K d) y1) h ?_
  intro y2 h
  refine cn_then ?_
  refine run_cond (v := y2.2) (by kernel_rfl) h ?_ ?_
  ·
    intro h
    refine run_reg hm hT hC (crest_place_g3 (crest_place_K d) y2) h ?_
    intro y3 h
    exact hj1 _ h
  ·
    intro h
    refine run_skip ?_
    refine cn_num (s := ⟨[(5, .int .i64 y2.1)], []⟩) [14] (by kernel_rfl) ?_
    exact hj1 _ h
abbrev crest_At_ps : List Pk := [.row RLiiiE false, .row Rii true]
abbrev crest_At_X : Type := DLiiiE × Dii × Unit
abbrev crest_At_R : Type := Int × Int
def crest_At_enc (r : crest_At_R) : LV × List Ob := (.tup [.int .i64 r.1, .int .i64 r.2], [])
def crest_At_sp (F : crest_At_X → Option crest_At_R) : Go.Tx.Spec := ⟨16, crest_At_ps, crest_At_R, F, crest_At_enc⟩
abbrev crest_At_C : Type := (crest_Check_X → Option crest_Check_R) × (ratio_Check_X → Option ratio_Check_R) × (crest_place_X → Option crest_place_R) × Unit
def crest_At_K (d : Nat) : crest_At_C := (F_crest_Check d, F_ratio_Check d, F_crest_place d, ())
def crest_At_tab (C : crest_At_C) : List Go.Tx.Spec := [crest_Check_sp C.1, ratio_Check_sp C.2.1, crest_place_sp C.2.2.1]
abbrev crest_At_Y0i : Type := List Diii × Int × Int
def crest_At_S0i (v : crest_At_Y0i) : St := ⟨[(0, .fz Riii v.1), (1, .agg [.int .i64 v.2.1, .int .i64 v.2.2])], []⟩
abbrev crest_At_Y0 : Type := List Diii × Int × Int
def crest_At_S0 (v : crest_At_Y0) : St := ⟨[(0, .fz Riii v.1), (3, .ptr 0 0)], [.cells [.int .i64 v.2.1, .int .i64 v.2.2]]⟩
def crest_At_r0 (C : crest_At_C) (v : crest_At_Y0i) : Dt crest_At_Y0 := (Dt.ret (v.1, v.2.1, v.2.2))
theorem crest_At_g0 (C : crest_At_C) (v : crest_At_Y0i) : treg tysT (orc (crest_At_tab C)) 26 (regO (bodyOf f16) 0) false [(0, (.val Riii)), (3, .any)] (crest_At_S0i v) some = (crest_At_r0 C v).eval fun y => some (crest_At_S0 y) := by kernel_rfl
abbrev crest_At_Y1 : Type := List Diii × Int × Int × Int
def crest_At_S1 (v : crest_At_Y1) : St := ⟨[(0, .fz Riii v.1), (3, .ptr 0 0), (6, .int .i64 v.2.1)], [.cells [.int .i64 v.2.2.1, .int .i64 v.2.2.2]]⟩
def crest_At_r1 (C : crest_At_C) (v : crest_At_Y0) : Dt crest_At_Y1 := (Dt.bnd (C.1 ((v.1, ()), ())) fun r1 => (Dt.bnd (C.2.1 ((v.2.1, v.2.2, ()), ())) fun r2 => (Dt.ret (v.1, (tmax r1 r2), v.2.1, v.2.2))))
theorem crest_At_g1 (C : crest_At_C) (v : crest_At_Y0) : treg tysT (orc (crest_At_tab C)) 26 (regO (bodyOf f16) 1) true [(0, (.val Riii)), (3, .any), (6, .any)] (crest_At_S0 v) some = (crest_At_r1 C v).eval fun y => some (crest_At_S1 y) := by kernel_rfl
abbrev crest_At_Y2 : Type := List Diii × Int × Bool × Int × Int
def crest_At_S2 (v : crest_At_Y2) : St := ⟨[(0, .fz Riii v.1), (3, .ptr 0 0), (6, .int .i64 v.2.1), (14, .bool v.2.2.1)], [.cells [.int .i64 v.2.2.2.1, .int .i64 v.2.2.2.2]]⟩
def crest_At_r2 (C : crest_At_C) (v : crest_At_Y1) : Dt crest_At_Y2 := (Dt.ret (v.1, v.2.1, (v.2.1 != (0:Int)), v.2.2.1, v.2.2.2))
theorem crest_At_g2 (C : crest_At_C) (v : crest_At_Y1) : treg tysT (orc (crest_At_tab C)) 26 (regO (bodyOf f16) 2) false [(0, (.val Riii)), (3, .any), (6, .any), (14, .any)] (crest_At_S1 v) some = (crest_At_r2 C v).eval fun y => some (crest_At_S2 y) := by kernel_rfl
abbrev crest_At_Y3 : Type := Int × Int
def crest_At_S3 (v : crest_At_Y3) : St := ⟨[(4, .int .i64 v.1), (5, .int .i64 v.2)], []⟩
def crest_At_r3 (C : crest_At_C) (v : crest_At_Y2) : Dt crest_At_Y3 := (Dt.ret ((0:Int), v.2.1))
theorem crest_At_g3 (C : crest_At_C) (v : crest_At_Y2) : treg tysT (orc (crest_At_tab C)) 26 (regO (bodyOf f16) 3) false [(4, .any), (5, .any)] (crest_At_S2 v) some = (crest_At_r3 C v).eval fun y => some (crest_At_S3 y) := by kernel_rfl
abbrev crest_At_Y4 : Type := List Diii × Int
def crest_At_S4 (v : crest_At_Y4) : St := ⟨[(0, .fz Riii v.1), (7, .int .i64 v.2)], []⟩
def crest_At_r4 (C : crest_At_C) (v : crest_At_Y2) : Dt crest_At_Y4 := (Dt.bnd (C.2.2.1 ((v.1, ()), (v.2.2.2.1, v.2.2.2.2, ()), ())) fun r1 => (Dt.ret (v.1, r1)))
theorem crest_At_g4 (C : crest_At_C) (v : crest_At_Y2) : treg tysT (orc (crest_At_tab C)) 26 (regO (bodyOf f16) 4) false [(0, (.val Riii)), (7, .any)] (crest_At_S2 v) some = (crest_At_r4 C v).eval fun y => some (crest_At_S4 y) := by kernel_rfl
abbrev crest_At_Y5 : Type := List Diii × Int × Bool
def crest_At_S5 (v : crest_At_Y5) : St := ⟨[(0, .fz Riii v.1), (7, .int .i64 v.2.1), (20, .bool v.2.2)], []⟩
def crest_At_r5 (C : crest_At_C) (v : crest_At_Y4) : Dt crest_At_Y5 := (Dt.ret (v.1, v.2, (decide (v.2 < (0:Int)))))
theorem crest_At_g5 (C : crest_At_C) (v : crest_At_Y4) : treg tysT (orc (crest_At_tab C)) 26 (regO (bodyOf f16) 5) false [(0, (.val Riii)), (7, .any), (20, .any)] (crest_At_S4 v) some = (crest_At_r5 C v).eval fun y => some (crest_At_S5 y) := by kernel_rfl
def crest_At_r6 (C : crest_At_C) (v : crest_At_Y5) : Dt crest_At_Y3 := (Dt.ret ((0:Int), (44:Int)))
theorem crest_At_g6 (C : crest_At_C) (v : crest_At_Y5) : treg tysT (orc (crest_At_tab C)) 26 (regO (bodyOf f16) 6) false [(4, .any), (5, .any)] (crest_At_S5 v) some = (crest_At_r6 C v).eval fun y => some (crest_At_S3 y) := by kernel_rfl
def crest_At_r7 (C : crest_At_C) (v : crest_At_Y5) : Dt crest_At_Y3 := (Dt.ite (inB v.2.1 (List.length v.1)) (Dt.ret ((elt ziii v.1 (v.2.1).toNat).2.2.1, (0:Int))) Dt.fail)
theorem crest_At_g7 (C : crest_At_C) (v : crest_At_Y5) : treg tysT (orc (crest_At_tab C)) 26 (regO (bodyOf f16) 7) false [(4, .any), (5, .any)] (crest_At_S5 v) some = (crest_At_r7 C v).eval fun y => some (crest_At_S3 y) := by kernel_rfl
def F_crest_At (d : Nat) (x : crest_At_X) : Option crest_At_R :=
  (crest_At_r0 (crest_At_K d) (x.1.1, x.2.1.1, x.2.1.2.1)).eval fun y0 =>
  (crest_At_r1 (crest_At_K d) y0).eval fun y1 =>
  (crest_At_r2 (crest_At_K d) y1).eval fun y2 =>
  bif y2.2.2.1 then ((crest_At_r3 (crest_At_K d) y2).eval fun y3 =>
  some y3) else ((crest_At_r4 (crest_At_K d) y2).eval fun y4 =>
  (crest_At_r5 (crest_At_K d) y4).eval fun y5 =>
  bif y5.2.2 then ((crest_At_r6 (crest_At_K d) y5).eval fun y6 =>
  some y6) else ((crest_At_r7 (crest_At_K d) y5).eval fun y7 =>
  some y7))
theorem crest_At_cok (d : Nat) : COK prog (crest_At_sp (F_crest_At d)) := by
  have hm : prog.follows .mixedOrders = true := mixed
  have hT := tys
  have hC0 : OrcOK prog (orc (crest_At_tab (crest_At_K d))) := orc_ok (by
    intro S hS
    simp only [crest_At_tab, List.mem_cons, List.not_mem_nil, or_false] at hS
    rcases hS with rfl | rfl | rfl
    · exact crest_Check_cok d
    · exact ratio_Check_cok d
    · exact crest_place_cok d)
  have hC : OrcOK prog (orc (crest_At_tab (crest_At_K d))) := hC0
  refine cok_of (c := bodyOf f16) (fn := f16) hT (by kernel_rfl) (by kernel_rfl) (by decide) fun x r h w0 φ0 Q hend => ?_
  replace h : F_crest_At d x = some r := h
  unfold F_crest_At at h
  show Run prog w0 φ0 26 (bodyOf f16) ⟨[(0, .fz Riii x.1.1), (1, .agg [.int .i64 x.2.1.1, .int .i64 x.2.1.2.1])], []⟩ Q
  refine run_seq ?_
  refine run_reg hm hT hC (crest_At_g0 (crest_At_K d) (x.1.1, x.2.1.1, x.2.1.2.1)) h ?_
  intro y0 h
  refine cn_then ?_
  refine run_seq ?_
  refine run_seq ?_
  refine run_reg hm hT hC (crest_At_g1 (crest_At_K d) y0) h ?_
  intro y1 h
  refine cn_then ?_
  refine run_seq ?_
  refine run_reg hm hT hC (crest_At_g2 (crest_At_K d) y1) h ?_
  intro y2 h
  refine cn_then ?_
  refine run_cond (v := y2.2.2.1) (by kernel_rfl) h ?_ ?_
  ·
    intro h
    refine run_seq ?_
    refine run_reg hm hT hC (crest_At_g3 (crest_At_K d) y2) h ?_
    intro y3 h
    refine cn_then ?_
    refine run_ret ?_
    refine cn_then_ret ?_
    cases h
    exact (hend _ (by kernel_rfl)).2
  ·
    intro h
    refine run_skip ?_
    refine cn_then ?_
    refine run_seq ?_
    refine run_reg hm hT hC (crest_At_g4 (crest_At_K d) y2) h ?_
    intro y4 h
    refine cn_then ?_
    refine run_seq ?_
    refine run_seq ?_
    refine run_reg hm hT hC (crest_At_g5 (crest_At_K d) y4) h ?_
    intro y5 h
    refine cn_then ?_
    refine run_cond (v := y5.2.2) (by kernel_rfl) h ?_ ?_
    ·
      intro h
      refine run_seq ?_
      refine run_reg hm hT hC (crest_At_g6 (crest_At_K d) y5) h ?_
      intro y6 h
      refine cn_then ?_
      refine run_ret ?_
      refine cn_then_ret ?_
      cases h
      exact (hend _ (by kernel_rfl)).2
    ·
      intro h
      refine run_skip ?_
      refine cn_then ?_
      refine run_seq ?_
      refine run_reg hm hT hC (crest_At_g7 (crest_At_K d) y5) h ?_
      intro y7 h
      refine cn_then ?_
      refine run_ret ?_
      cases h
      exact (hend _ (by kernel_rfl)).2
end Go.Proofs.Ytdpnndpbbdhnmaa

namespace Go.Proofs.Ytdpnndpbbdhnmaa
open Go Go.Tx Go.Proofs.Try
set_option maxRecDepth 100000
set_option maxHeartbeats 0
abbrev ref01_Sign_ps : List Pk := [.row Rbuu true]
abbrev ref01_Sign_X : Type := Dbuu × Unit
abbrev ref01_Sign_R : Type := Int
def ref01_Sign_enc (r : ref01_Sign_R) : LV × List Ob := (.int .i64 r, [])
def ref01_Sign_sp (F : ref01_Sign_X → Option ref01_Sign_R) : Go.Tx.Spec := ⟨54, ref01_Sign_ps, ref01_Sign_R, F, ref01_Sign_enc⟩
abbrev ref01_Sign_C : Type := Unit
def ref01_Sign_K (_d : Nat) : ref01_Sign_C := ()
def ref01_Sign_tab (C : ref01_Sign_C) : List Go.Tx.Spec := []
abbrev ref01_Sign_Y0i : Type := Bool × Int × Int
def ref01_Sign_S0i (v : ref01_Sign_Y0i) : St := ⟨[(0, .agg [.bool v.1, .int .u64 v.2.1, .int .u64 v.2.2])], []⟩
abbrev ref01_Sign_Y0 : Type := Bool × Int × Int
def ref01_Sign_S0 (v : ref01_Sign_Y0) : St := ⟨[(1, .ptr 0 0)], [.cells [.bool v.1, .int .u64 v.2.1, .int .u64 v.2.2]]⟩
def ref01_Sign_r0 (C : ref01_Sign_C) (v : ref01_Sign_Y0i) : Dt ref01_Sign_Y0 := (Dt.ret (v.1, v.2.1, v.2.2))
theorem ref01_Sign_g0 (C : ref01_Sign_C) (v : ref01_Sign_Y0i) : treg tysT (orc (ref01_Sign_tab C)) 13 (regO (bodyOf f54) 0) false [(1, .any)] (ref01_Sign_S0i v) some = (ref01_Sign_r0 C v).eval fun y => some (ref01_Sign_S0 y) := by kernel_rfl
abbrev ref01_Sign_Y1 : Type := Bool × Bool × Int × Int
def ref01_Sign_S1 (v : ref01_Sign_Y1) : St := ⟨[(1, .ptr 0 0), (10, .bool v.1)], [.cells [.bool v.2.1, .int .u64 v.2.2.1, .int .u64 v.2.2.2]]⟩
def ref01_Sign_r1 (C : ref01_Sign_C) (v : ref01_Sign_Y0) : Dt ref01_Sign_Y1 := (Dt.ite (v.2.1 == (0:Int)) (Dt.ret ((v.2.2 == (0:Int)), v.1, v.2.1, v.2.2)) (Dt.ret (false, v.1, v.2.1, v.2.2)))
theorem ref01_Sign_g1 (C : ref01_Sign_C) (v : ref01_Sign_Y0) : treg tysT (orc (ref01_Sign_tab C)) 13 (regO (bodyOf f54) 1) false [(1, .any), (10, .any)] (ref01_Sign_S0 v) some = (ref01_Sign_r1 C v).eval fun y => some (ref01_Sign_S1 y) := by kernel_rfl
abbrev ref01_Sign_Y2 : Type := Int
def ref01_Sign_S2 (v : ref01_Sign_Y2) : St := ⟨[(2, .int .i64 v)], []⟩
def ref01_Sign_r2 (C : ref01_Sign_C) (v : ref01_Sign_Y1) : Dt ref01_Sign_Y2 := (Dt.ret (0:Int))
theorem ref01_Sign_g2 (C : ref01_Sign_C) (v : ref01_Sign_Y1) : treg tysT (orc (ref01_Sign_tab C)) 13 (regO (bodyOf f54) 2) false [(2, .any)] (ref01_Sign_S1 v) some = (ref01_Sign_r2 C v).eval fun y => some (ref01_Sign_S2 y) := by kernel_rfl
abbrev ref01_Sign_Y3 : Type := Bool
def ref01_Sign_S3 (v : ref01_Sign_Y3) : St := ⟨[(12, .bool v)], []⟩
def ref01_Sign_r3 (C : ref01_Sign_C) (v : ref01_Sign_Y1) : Dt ref01_Sign_Y3 := (Dt.ret v.2.1)
theorem ref01_Sign_g3 (C : ref01_Sign_C) (v : ref01_Sign_Y1) : treg tysT (orc (ref01_Sign_tab C)) 13 (regO (bodyOf f54) 3) false [(12, .any)] (ref01_Sign_S1 v) some = (ref01_Sign_r3 C v).eval fun y => some (ref01_Sign_S3 y) := by kernel_rfl
def ref01_Sign_r4 (C : ref01_Sign_C) (v : ref01_Sign_Y3) : Dt ref01_Sign_Y2 := (Dt.ret (-1:Int))
theorem ref01_Sign_g4 (C : ref01_Sign_C) (v : ref01_Sign_Y3) : treg tysT (orc (ref01_Sign_tab C)) 13 (regO (bodyOf f54) 4) false [(2, .any)] (ref01_Sign_S3 v) some = (ref01_Sign_r4 C v).eval fun y => some (ref01_Sign_S2 y) := by kernel_rfl
def ref01_Sign_r5 (C : ref01_Sign_C) (v : ref01_Sign_Y3) : Dt ref01_Sign_Y2 := (Dt.ret (1:Int))
theorem ref01_Sign_g5 (C : ref01_Sign_C) (v : ref01_Sign_Y3) : treg tysT (orc (ref01_Sign_tab C)) 13 (regO (bodyOf f54) 5) false [(2, .any)] (ref01_Sign_S3 v) some = (ref01_Sign_r5 C v).eval fun y => some (ref01_Sign_S2 y) := by kernel_rfl
def F_ref01_Sign (d : Nat) (x : ref01_Sign_X) : Option ref01_Sign_R :=
  (ref01_Sign_r0 (ref01_Sign_K d) (x.1.1, x.1.2.1, x.1.2.2.1)).eval fun y0 =>
  (ref01_Sign_r1 (ref01_Sign_K d) y0).eval fun y1 =>
  bif y1.1 then ((ref01_Sign_r2 (ref01_Sign_K d) y1).eval fun y2 =>
  some y2) else ((ref01_Sign_r3 (ref01_Sign_K d) y1).eval fun y3 =>
  bif y3 then ((ref01_Sign_r4 (ref01_Sign_K d) y3).eval fun y4 =>
  some y4) else ((ref01_Sign_r5 (ref01_Sign_K d) y3).eval fun y5 =>
  some y5))
theorem ref01_Sign_cok (d : Nat) : COK prog (ref01_Sign_sp (F_ref01_Sign d)) := by
  have hm : prog.follows .mixedOrders = true := mixed
  have hT := tys
  have hC0 : OrcOK prog (orc (ref01_Sign_tab (ref01_Sign_K d))) := orc_ok (by
    intro S hS
    simp only [ref01_Sign_tab, List.mem_cons, List.not_mem_nil, or_false] at hS
    all_goals first | cases hS | exact hS.elim)
  have hC : OrcOK prog (orc (ref01_Sign_tab (ref01_Sign_K d))) := hC0
  refine cok_of (c := bodyOf f54) (fn := f54) hT (by kernel_rfl) (by kernel_rfl) (by decide) fun x r h w0 φ0 Q hend => ?_
  replace h : F_ref01_Sign d x = some r := h
  unfold F_ref01_Sign at h
  show Run prog w0 φ0 13 (bodyOf f54) ⟨[(0, .agg [.bool x.1.1, .int .u64 x.1.2.1, .int .u64 x.1.2.2.1])], []⟩ Q
  refine run_seq ?_
  refine run_reg hm hT hC (ref01_Sign_g0 (ref01_Sign_K d) (x.1.1, x.1.2.1, x.1.2.2.1)) h ?_
  intro y0 h
  refine cn_then ?_
  refine run_seq ?_
  refine run_seq ?_
  refine run_reg hm hT hC (ref01_Sign_g1 (ref01_Sign_K d) y0) h ?_
  intro y1 h
  refine cn_then ?_
  refine run_cond (v := y1.1) (by kernel_rfl) h ?_ ?_
  ·
    intro h
    refine run_seq ?_
    refine run_reg hm hT hC (ref01_Sign_g2 (ref01_Sign_K d) y1) h ?_
    intro y2 h
    refine cn_then ?_
    refine run_ret ?_
    refine cn_then_ret ?_
    cases h
    exact (hend _ (by kernel_rfl)).2
  ·
    intro h
    refine run_skip ?_
    refine cn_then ?_
    refine run_seq ?_
    refine run_seq ?_
    refine run_reg hm hT hC (ref01_Sign_g3 (ref01_Sign_K d) y1) h ?_
    intro y3 h
    refine cn_then ?_
    refine run_cond (v := y3) (by kernel_rfl) h ?_ ?_
    ·
      intro h
      refine run_seq ?_
      refine run_reg hm hT hC (ref01_Sign_g4 (ref01_Sign_K d) y3) h ?_
      intro y4 h
      refine cn_then ?_
      refine run_ret ?_
      refine cn_then_ret ?_
      cases h
      exact (hend _ (by kernel_rfl)).2
    ·
      intro h
      refine run_skip ?_
      refine cn_then ?_
      refine run_seq ?_
      refine run_reg hm hT hC (ref01_Sign_g5 (ref01_Sign_K d) y3) h ?_
      intro y5 h
      refine cn_then ?_
      refine run_ret ?_
      cases h
      exact (hend _ (by kernel_rfl)).2
abbrev ref01_less_ps : List Pk := [.row Rbuu true, .row Rbuu true]
abbrev ref01_less_X : Type := Dbuu × Dbuu × Unit
abbrev ref01_less_R : Type := Int
def ref01_less_enc (r : ref01_less_R) : LV × List Ob := (.int .i64 r, [])
def ref01_less_sp (F : ref01_less_X → Option ref01_less_R) : Go.Tx.Spec := ⟨55, ref01_less_ps, ref01_less_R, F, ref01_less_enc⟩
abbrev ref01_less_C : Type := Unit
def ref01_less_K (_d : Nat) : ref01_less_C := ()
def ref01_less_tab (C : ref01_less_C) : List Go.Tx.Spec := []
abbrev ref01_less_Y0i : Type := Bool × Int × Int × Bool × Int × Int
def ref01_less_S0i (v : ref01_less_Y0i) : St := ⟨[(0, .agg [.bool v.1, .int .u64 v.2.1, .int .u64 v.2.2.1]), (1, .agg [.bool v.2.2.2.1, .int .u64 v.2.2.2.2.1, .int .u64 v.2.2.2.2.2])], []⟩
abbrev ref01_less_Y0 : Type := Bool × Int × Int × Bool × Int × Int
def ref01_less_S0 (v : ref01_less_Y0) : St := ⟨[(2, .ptr 0 0), (3, .ptr 1 0)], [.cells [.bool v.1, .int .u64 v.2.1, .int .u64 v.2.2.1], .cells [.bool v.2.2.2.1, .int .u64 v.2.2.2.2.1, .int .u64 v.2.2.2.2.2]]⟩
def ref01_less_r0 (C : ref01_less_C) (v : ref01_less_Y0i) : Dt ref01_less_Y0 := (Dt.ret (v.1, v.2.1, v.2.2.1, v.2.2.2.1, v.2.2.2.2.1, v.2.2.2.2.2))
theorem ref01_less_g0 (C : ref01_less_C) (v : ref01_less_Y0i) : treg tysT (orc (ref01_less_tab C)) 25 (regO (bodyOf f55) 0) false [(2, .any), (3, .any)] (ref01_less_S0i v) some = (ref01_less_r0 C v).eval fun y => some (ref01_less_S0 y) := by kernel_rfl
abbrev ref01_less_Y1 : Type := Bool × Bool × Int × Int × Bool × Int × Int
def ref01_less_S1 (v : ref01_less_Y1) : St := ⟨[(2, .ptr 0 0), (3, .ptr 1 0), (9, .bool v.1)], [.cells [.bool v.2.1, .int .u64 v.2.2.1, .int .u64 v.2.2.2.1], .cells [.bool v.2.2.2.2.1, .int .u64 v.2.2.2.2.2.1, .int .u64 v.2.2.2.2.2.2]]⟩
def ref01_less_r1 (C : ref01_less_C) (v : ref01_less_Y0) : Dt ref01_less_Y1 := (Dt.ret ((v.2.1 != v.2.2.2.2.1), v.1, v.2.1, v.2.2.1, v.2.2.2.1, v.2.2.2.2.1, v.2.2.2.2.2))
theorem ref01_less_g1 (C : ref01_less_C) (v : ref01_less_Y0) : treg tysT (orc (ref01_less_tab C)) 25 (regO (bodyOf f55) 1) false [(2, .any), (3, .any), (9, .any)] (ref01_less_S0 v) some = (ref01_less_r1 C v).eval fun y => some (ref01_less_S1 y) := by kernel_rfl
abbrev ref01_less_Y2 : Type := Bool
def ref01_less_S2 (v : ref01_less_Y2) : St := ⟨[(14, .bool v)], []⟩
def ref01_less_r2 (C : ref01_less_C) (v : ref01_less_Y1) : Dt ref01_less_Y2 := (Dt.ret (decide (v.2.2.1 < v.2.2.2.2.2.1)))
theorem ref01_less_g2 (C : ref01_less_C) (v : ref01_less_Y1) : treg tysT (orc (ref01_less_tab C)) 25 (regO (bodyOf f55) 2) false [(14, .any)] (ref01_less_S1 v) some = (ref01_less_r2 C v).eval fun y => some (ref01_less_S2 y) := by kernel_rfl
abbrev ref01_less_Y3 : Type := Int
def ref01_less_S3 (v : ref01_less_Y3) : St := ⟨[(4, .int .i64 v)], []⟩
def ref01_less_r3 (C : ref01_less_C) (v : ref01_less_Y2) : Dt ref01_less_Y3 := (Dt.ret (-1:Int))
theorem ref01_less_g3 (C : ref01_less_C) (v : ref01_less_Y2) : treg tysT (orc (ref01_less_tab C)) 25 (regO (bodyOf f55) 3) false [(4, .any)] (ref01_less_S2 v) some = (ref01_less_r3 C v).eval fun y => some (ref01_less_S3 y) := by kernel_rfl
def ref01_less_r4 (C : ref01_less_C) (v : ref01_less_Y2) : Dt ref01_less_Y3 := (Dt.ret (1:Int))
theorem ref01_less_g4 (C : ref01_less_C) (v : ref01_less_Y2) : treg tysT (orc (ref01_less_tab C)) 25 (regO (bodyOf f55) 4) false [(4, .any)] (ref01_less_S2 v) some = (ref01_less_r4 C v).eval fun y => some (ref01_less_S3 y) := by kernel_rfl
abbrev ref01_less_Y5 : Type := Bool × Bool × Int × Int × Bool × Int × Int
def ref01_less_S5 (v : ref01_less_Y5) : St := ⟨[(2, .ptr 0 0), (3, .ptr 1 0), (19, .bool v.1)], [.cells [.bool v.2.1, .int .u64 v.2.2.1, .int .u64 v.2.2.2.1], .cells [.bool v.2.2.2.2.1, .int .u64 v.2.2.2.2.2.1, .int .u64 v.2.2.2.2.2.2]]⟩
def ref01_less_r5 (C : ref01_less_C) (v : ref01_less_Y1) : Dt ref01_less_Y5 := (Dt.ret ((v.2.2.2.1 != v.2.2.2.2.2.2), v.2.1, v.2.2.1, v.2.2.2.1, v.2.2.2.2.1, v.2.2.2.2.2.1, v.2.2.2.2.2.2))
theorem ref01_less_g5 (C : ref01_less_C) (v : ref01_less_Y1) : treg tysT (orc (ref01_less_tab C)) 25 (regO (bodyOf f55) 5) false [(2, .any), (3, .any), (19, .any)] (ref01_less_S1 v) some = (ref01_less_r5 C v).eval fun y => some (ref01_less_S5 y) := by kernel_rfl
abbrev ref01_less_Y6 : Type := Bool
def ref01_less_S6 (v : ref01_less_Y6) : St := ⟨[(24, .bool v)], []⟩
def ref01_less_r6 (C : ref01_less_C) (v : ref01_less_Y5) : Dt ref01_less_Y6 := (Dt.ret (decide (v.2.2.2.1 < v.2.2.2.2.2.2)))
theorem ref01_less_g6 (C : ref01_less_C) (v : ref01_less_Y5) : treg tysT (orc (ref01_less_tab C)) 25 (regO (bodyOf f55) 6) false [(24, .any)] (ref01_less_S5 v) some = (ref01_less_r6 C v).eval fun y => some (ref01_less_S6 y) := by kernel_rfl
def ref01_less_r7 (C : ref01_less_C) (v : ref01_less_Y6) : Dt ref01_less_Y3 := (Dt.ret (-1:Int))
theorem ref01_less_g7 (C : ref01_less_C) (v : ref01_less_Y6) : treg tysT (orc (ref01_less_tab C)) 25 (regO (bodyOf f55) 7) false [(4, .any)] (ref01_less_S6 v) some = (ref01_less_r7 C v).eval fun y => some (ref01_less_S3 y) := by kernel_rfl
def ref01_less_r8 (C : ref01_less_C) (v : ref01_less_Y6) : Dt ref01_less_Y3 := (Dt.ret (1:Int))
theorem ref01_less_g8 (C : ref01_less_C) (v : ref01_less_Y6) : treg tysT (orc (ref01_less_tab C)) 25 (regO (bodyOf f55) 8) false [(4, .any)] (ref01_less_S6 v) some = (ref01_less_r8 C v).eval fun y => some (ref01_less_S3 y) := by kernel_rfl
def ref01_less_r9 (C : ref01_less_C) (v : ref01_less_Y5) : Dt ref01_less_Y3 := (Dt.ret (0:Int))
theorem ref01_less_g9 (C : ref01_less_C) (v : ref01_less_Y5) : treg tysT (orc (ref01_less_tab C)) 25 (regO (bodyOf f55) 9) false [(4, .any)] (ref01_less_S5 v) some = (ref01_less_r9 C v).eval fun y => some (ref01_less_S3 y) := by kernel_rfl
def F_ref01_less (d : Nat) (x : ref01_less_X) : Option ref01_less_R :=
  (ref01_less_r0 (ref01_less_K d) (x.1.1, x.1.2.1, x.1.2.2.1, x.2.1.1, x.2.1.2.1, x.2.1.2.2.1)).eval fun y0 =>
  (ref01_less_r1 (ref01_less_K d) y0).eval fun y1 =>
  bif y1.1 then ((ref01_less_r2 (ref01_less_K d) y1).eval fun y2 =>
  bif y2 then ((ref01_less_r3 (ref01_less_K d) y2).eval fun y3 =>
  some y3) else ((ref01_less_r4 (ref01_less_K d) y2).eval fun y4 =>
  some y4)) else ((ref01_less_r5 (ref01_less_K d) y1).eval fun y5 =>
  bif y5.1 then ((ref01_less_r6 (ref01_less_K d) y5).eval fun y6 =>
  bif y6 then ((ref01_less_r7 (ref01_less_K d) y6).eval fun y7 =>
  some y7) else ((ref01_less_r8 (ref01_less_K d) y6).eval fun y8 =>
  some y8)) else ((ref01_less_r9 (ref01_less_K d) y5).eval fun y9 =>
  some y9))
theorem ref01_less_cok (d : Nat) : COK prog (ref01_less_sp (F_ref01_less d)) := by
  have hm : prog.follows .mixedOrders = true := mixed
  have hT := tys
  have hC0 : OrcOK prog (orc (ref01_less_tab (ref01_less_K d))) := orc_ok (by
    intro S hS
    simp only [ref01_less_tab, List.mem_cons, List.not_mem_nil, or_false] at hS
    all_goals first | cases hS | exact hS.elim)
  have hC : OrcOK prog (orc (ref01_less_tab (ref01_less_K d))) := hC0
  refine cok_of (c := bodyOf f55) (fn := f55) hT (by kernel_rfl) (by kernel_rfl) (by decide) fun x r h w0 φ0 Q hend => ?_
  replace h : F_ref01_less d x = some r := h
  unfold F_ref01_less at h
  show Run prog w0 φ0 25 (bodyOf f55) ⟨[(0, .agg [.bool x.1.1, .int .u64 x.1.2.1, .int .u64 x.1.2.2.1]), (1, .agg [.bool x.2.1.1, .int .u64 x.2.1.2.1, .int .u64 x.2.1.2.2.1])], []⟩ Q
  refine run_seq ?_
  refine run_reg hm hT hC (ref01_less_g0 (ref01_less_K d) (x.1.1, x.1.2.1, x.1.2.2.1, x.2.1.1, x.2.1.2.1, x.2.1.2.2.1)) h ?_
  intro y0 h
  refine cn_then ?_
  refine run_seq ?_
  refine run_seq ?_
  refine run_reg hm hT hC (ref01_less_g1 (ref01_less_K d) y0) h ?_
  intro y1 h
  refine cn_then ?_
  refine run_cond (v := y1.1) (by kernel_rfl) h ?_ ?_
  ·
    intro h
    refine run_seq ?_
    refine run_seq ?_
    refine run_reg hm hT hC (ref01_less_g2 (ref01_less_K d) y1) h ?_
    intro y2 h
    refine cn_then ?_
    refine run_cond (v := y2) (by kernel_rfl) h ?_ ?_
    ·
      intro h
      refine run_seq ?_
      refine run_reg hm hT hC (ref01_less_g3 (ref01_less_K d) y2) h ?_
      intro y3 h
      refine cn_then ?_
      refine run_ret ?_
      refine cn_then_ret ?_
      refine cn_then_ret ?_
      cases h
      exact (hend _ (by kernel_rfl)).2
    ·
      intro h
      refine run_skip ?_
      refine cn_then ?_
      refine run_seq ?_
      refine run_reg hm hT hC (ref01_less_g4 (ref01_less_K d) y2) h ?_
      intro y4 h
      refine cn_then ?_
      refine run_ret ?_
      refine cn_then_ret ?_
      cases h
      exact (hend _ (by kernel_rfl)).2
  ·
    intro h
    refine run_skip ?_
    refine cn_then ?_
    refine run_seq ?_
    refine run_seq ?_
    refine run_reg hm hT hC (ref01_less_g5 (ref01_less_K d) y1) h ?_
    intro y5 h
    refine cn_then ?_
    refine run_cond (v := y5.1) (by kernel_rfl) h ?_ ?_
    ·
      intro h
      refine run_seq ?_
      refine run_seq ?_
      refine run_reg hm hT hC (ref01_less_g6 (ref01_less_K d) y5) h ?_
      intro y6 h
      refine cn_then ?_
      refine run_cond (v := y6) (by kernel_rfl) h ?_ ?_
      ·
        intro h
        refine run_seq ?_
        refine run_reg hm hT hC (ref01_less_g7 (ref01_less_K d) y6) h ?_
        intro y7 h
        refine cn_then ?_
        refine run_ret ?_
        refine cn_then_ret ?_
        refine cn_then_ret ?_
        cases h
        exact (hend _ (by kernel_rfl)).2
      ·
        intro h
        refine run_skip ?_
        refine cn_then ?_
        refine run_seq ?_
        refine run_reg hm hT hC (ref01_less_g8 (ref01_less_K d) y6) h ?_
        intro y8 h
        refine cn_then ?_
        refine run_ret ?_
        refine cn_then_ret ?_
        cases h
        exact (hend _ (by kernel_rfl)).2
    ·
      intro h
      refine run_skip ?_
      refine cn_then ?_
      refine run_seq ?_
      refine run_reg hm hT hC (ref01_less_g9 (ref01_less_K d) y5) h ?_
      intro y9 h
      refine cn_then ?_
      refine run_ret ?_
      cases h
      exact (hend _ (by kernel_rfl)).2
abbrev ref01_Compare_ps : List Pk := [.row Rii true, .row Rii true]
abbrev ref01_Compare_X : Type := Dii × Dii × Unit
abbrev ref01_Compare_R : Type := Int
def ref01_Compare_enc (r : ref01_Compare_R) : LV × List Ob := (.int .i64 r, [])
def ref01_Compare_sp (F : ref01_Compare_X → Option ref01_Compare_R) : Go.Tx.Spec := ⟨23, ref01_Compare_ps, ref01_Compare_R, F, ref01_Compare_enc⟩
abbrev ref01_Compare_C : Type := (ref01_Product_X → Option ref01_Product_R) × (ref01_Sign_X → Option ref01_Sign_R) × (ref01_less_X → Option ref01_less_R) × Unit
def ref01_Compare_K (d : Nat) : ref01_Compare_C := (F_ref01_Product d, F_ref01_Sign d, F_ref01_less d, ())
def ref01_Compare_tab (C : ref01_Compare_C) : List Go.Tx.Spec := [ref01_Product_sp C.1, ref01_Sign_sp C.2.1, ref01_less_sp C.2.2.1]
abbrev ref01_Compare_Y0i : Type := Int × Int × Int × Int
def ref01_Compare_S0i (v : ref01_Compare_Y0i) : St := ⟨[(0, .agg [.int .i64 v.1, .int .i64 v.2.1]), (1, .agg [.int .i64 v.2.2.1, .int .i64 v.2.2.2])], []⟩
abbrev ref01_Compare_Y0 : Type := Int × Int × Int × Int
def ref01_Compare_S0 (v : ref01_Compare_Y0) : St := ⟨[(2, .ptr 0 0), (3, .ptr 1 0)], [.cells [.int .i64 v.1, .int .i64 v.2.1], .cells [.int .i64 v.2.2.1, .int .i64 v.2.2.2]]⟩
def ref01_Compare_r0 (C : ref01_Compare_C) (v : ref01_Compare_Y0i) : Dt ref01_Compare_Y0 := (Dt.ret (v.1, v.2.1, v.2.2.1, v.2.2.2))
theorem ref01_Compare_g0 (C : ref01_Compare_C) (v : ref01_Compare_Y0i) : treg tysT (orc (ref01_Compare_tab C)) 36 (regO (bodyOf f23) 0) false [(2, .any), (3, .any)] (ref01_Compare_S0i v) some = (ref01_Compare_r0 C v).eval fun y => some (ref01_Compare_S0 y) := by kernel_rfl
abbrev ref01_Compare_Y1 : Type := Bool × Int × Int × Bool × Int × Int
def ref01_Compare_S1 (v : ref01_Compare_Y1) : St := ⟨[(5, .ptr 0 0), (6, .ptr 1 0)], [.cells [.bool v.1, .int .u64 v.2.1, .int .u64 v.2.2.1], .cells [.bool v.2.2.2.1, .int .u64 v.2.2.2.2.1, .int .u64 v.2.2.2.2.2]]⟩
def ref01_Compare_r1 (C : ref01_Compare_C) (v : ref01_Compare_Y0) : Dt ref01_Compare_Y1 := (Dt.bnd (C.1 ((v.1, ()), (v.2.2.2, ()), ())) fun r1 => (Dt.bnd (C.1 ((v.2.2.1, ()), (v.2.1, ()), ())) fun r2 => (Dt.ret (r1.1, r1.2.1, r1.2.2, r2.1, r2.2.1, r2.2.2))))
theorem ref01_Compare_g1 (C : ref01_Compare_C) (v : ref01_Compare_Y0) : treg tysT (orc (ref01_Compare_tab C)) 36 (regO (bodyOf f23) 1) true [(5, .any), (6, .any)] (ref01_Compare_S0 v) some = (ref01_Compare_r1 C v).eval fun y => some (ref01_Compare_S1 y) := by kernel_rfl
abbrev ref01_Compare_Y2 : Type := Bool × Bool × Int × Int × Bool × Int × Int
def ref01_Compare_S2 (v : ref01_Compare_Y2) : St := ⟨[(5, .ptr 0 0), (6, .ptr 1 0), (21, .bool v.1)], [.cells [.bool v.2.1, .int .u64 v.2.2.1, .int .u64 v.2.2.2.1], .cells [.bool v.2.2.2.2.1, .int .u64 v.2.2.2.2.2.1, .int .u64 v.2.2.2.2.2.2]]⟩
def ref01_Compare_r2 (C : ref01_Compare_C) (v : ref01_Compare_Y1) : Dt ref01_Compare_Y2 := (Dt.bnd (C.2.1 ((v.1, v.2.1, v.2.2.1, ()), ())) fun r1 => (Dt.bnd (C.2.1 ((v.2.2.2.1, v.2.2.2.2.1, v.2.2.2.2.2, ()), ())) fun r2 => (Dt.ret ((r1 != r2), v.1, v.2.1, v.2.2.1, v.2.2.2.1, v.2.2.2.2.1, v.2.2.2.2.2))))
theorem ref01_Compare_g2 (C : ref01_Compare_C) (v : ref01_Compare_Y1) : treg tysT (orc (ref01_Compare_tab C)) 36 (regO (bodyOf f23) 2) true [(5, .any), (6, .any), (21, .any)] (ref01_Compare_S1 v) some = (ref01_Compare_r2 C v).eval fun y => some (ref01_Compare_S2 y) := by kernel_rfl
abbrev ref01_Compare_Y3 : Type := Bool
def ref01_Compare_S3 (v : ref01_Compare_Y3) : St := ⟨[(26, .bool v)], []⟩
def ref01_Compare_r3 (C : ref01_Compare_C) (v : ref01_Compare_Y2) : Dt ref01_Compare_Y3 := (Dt.bnd (C.2.1 ((v.2.1, v.2.2.1, v.2.2.2.1, ()), ())) fun r1 => (Dt.bnd (C.2.1 ((v.2.2.2.2.1, v.2.2.2.2.2.1, v.2.2.2.2.2.2, ()), ())) fun r2 => (Dt.ret (decide (r1 < r2)))))
theorem ref01_Compare_g3 (C : ref01_Compare_C) (v : ref01_Compare_Y2) : treg tysT (orc (ref01_Compare_tab C)) 36 (regO (bodyOf f23) 3) true [(26, .any)] (ref01_Compare_S2 v) some = (ref01_Compare_r3 C v).eval fun y => some (ref01_Compare_S3 y) := by kernel_rfl
abbrev ref01_Compare_Y4 : Type := Int
def ref01_Compare_S4 (v : ref01_Compare_Y4) : St := ⟨[(4, .int .i64 v)], []⟩
def ref01_Compare_r4 (C : ref01_Compare_C) (v : ref01_Compare_Y3) : Dt ref01_Compare_Y4 := (Dt.ret (-1:Int))
theorem ref01_Compare_g4 (C : ref01_Compare_C) (v : ref01_Compare_Y3) : treg tysT (orc (ref01_Compare_tab C)) 36 (regO (bodyOf f23) 4) false [(4, .any)] (ref01_Compare_S3 v) some = (ref01_Compare_r4 C v).eval fun y => some (ref01_Compare_S4 y) := by kernel_rfl
def ref01_Compare_r5 (C : ref01_Compare_C) (v : ref01_Compare_Y3) : Dt ref01_Compare_Y4 := (Dt.ret (1:Int))
theorem ref01_Compare_g5 (C : ref01_Compare_C) (v : ref01_Compare_Y3) : treg tysT (orc (ref01_Compare_tab C)) 36 (regO (bodyOf f23) 5) false [(4, .any)] (ref01_Compare_S3 v) some = (ref01_Compare_r5 C v).eval fun y => some (ref01_Compare_S4 y) := by kernel_rfl
abbrev ref01_Compare_Y6 : Type := Bool × Bool × Int × Int × Bool × Int × Int
def ref01_Compare_S6 (v : ref01_Compare_Y6) : St := ⟨[(5, .ptr 0 0), (6, .ptr 1 0), (29, .bool v.1)], [.cells [.bool v.2.1, .int .u64 v.2.2.1, .int .u64 v.2.2.2.1], .cells [.bool v.2.2.2.2.1, .int .u64 v.2.2.2.2.2.1, .int .u64 v.2.2.2.2.2.2]]⟩
def ref01_Compare_r6 (C : ref01_Compare_C) (v : ref01_Compare_Y2) : Dt ref01_Compare_Y6 := (Dt.bnd (C.2.1 ((v.2.1, v.2.2.1, v.2.2.2.1, ()), ())) fun r1 => (Dt.ret ((decide (r1 < (0:Int))), v.2.1, v.2.2.1, v.2.2.2.1, v.2.2.2.2.1, v.2.2.2.2.2.1, v.2.2.2.2.2.2)))
theorem ref01_Compare_g6 (C : ref01_Compare_C) (v : ref01_Compare_Y2) : treg tysT (orc (ref01_Compare_tab C)) 36 (regO (bodyOf f23) 6) false [(5, .any), (6, .any), (29, .any)] (ref01_Compare_S2 v) some = (ref01_Compare_r6 C v).eval fun y => some (ref01_Compare_S6 y) := by kernel_rfl
def ref01_Compare_r7 (C : ref01_Compare_C) (v : ref01_Compare_Y6) : Dt ref01_Compare_Y4 := (Dt.bnd (C.2.2.1 ((v.2.2.2.2.1, v.2.2.2.2.2.1, v.2.2.2.2.2.2, ()), (v.2.1, v.2.2.1, v.2.2.2.1, ()), ())) fun r1 => (Dt.ret r1))
theorem ref01_Compare_g7 (C : ref01_Compare_C) (v : ref01_Compare_Y6) : treg tysT (orc (ref01_Compare_tab C)) 36 (regO (bodyOf f23) 7) false [(4, .any)] (ref01_Compare_S6 v) some = (ref01_Compare_r7 C v).eval fun y => some (ref01_Compare_S4 y) := by kernel_rfl
def ref01_Compare_r8 (C : ref01_Compare_C) (v : ref01_Compare_Y6) : Dt ref01_Compare_Y4 := (Dt.bnd (C.2.2.1 ((v.2.1, v.2.2.1, v.2.2.2.1, ()), (v.2.2.2.2.1, v.2.2.2.2.2.1, v.2.2.2.2.2.2, ()), ())) fun r1 => (Dt.ret r1))
theorem ref01_Compare_g8 (C : ref01_Compare_C) (v : ref01_Compare_Y6) : treg tysT (orc (ref01_Compare_tab C)) 36 (regO (bodyOf f23) 8) false [(4, .any)] (ref01_Compare_S6 v) some = (ref01_Compare_r8 C v).eval fun y => some (ref01_Compare_S4 y) := by kernel_rfl
def F_ref01_Compare (d : Nat) (x : ref01_Compare_X) : Option ref01_Compare_R :=
  (ref01_Compare_r0 (ref01_Compare_K d) (x.1.1, x.1.2.1, x.2.1.1, x.2.1.2.1)).eval fun y0 =>
  (ref01_Compare_r1 (ref01_Compare_K d) y0).eval fun y1 =>
  (ref01_Compare_r2 (ref01_Compare_K d) y1).eval fun y2 =>
  bif y2.1 then ((ref01_Compare_r3 (ref01_Compare_K d) y2).eval fun y3 =>
  bif y3 then ((ref01_Compare_r4 (ref01_Compare_K d) y3).eval fun y4 =>
  some y4) else ((ref01_Compare_r5 (ref01_Compare_K d) y3).eval fun y5 =>
  some y5)) else ((ref01_Compare_r6 (ref01_Compare_K d) y2).eval fun y6 =>
  bif y6.1 then ((ref01_Compare_r7 (ref01_Compare_K d) y6).eval fun y7 =>
  some y7) else ((ref01_Compare_r8 (ref01_Compare_K d) y6).eval fun y8 =>
  some y8))
theorem ref01_Compare_cok (d : Nat) : COK prog (ref01_Compare_sp (F_ref01_Compare d)) := by
  have hm : prog.follows .mixedOrders = true := mixed
  have hT := tys
  have hC0 : OrcOK prog (orc (ref01_Compare_tab (ref01_Compare_K d))) := orc_ok (by
    intro S hS
    simp only [ref01_Compare_tab, List.mem_cons, List.not_mem_nil, or_false] at hS
    rcases hS with rfl | rfl | rfl
    · exact ref01_Product_cok d
    · exact ref01_Sign_cok d
    · exact ref01_less_cok d)
  have hC : OrcOK prog (orc (ref01_Compare_tab (ref01_Compare_K d))) := hC0
  refine cok_of (c := bodyOf f23) (fn := f23) hT (by kernel_rfl) (by kernel_rfl) (by decide) fun x r h w0 φ0 Q hend => ?_
  replace h : F_ref01_Compare d x = some r := h
  unfold F_ref01_Compare at h
  show Run prog w0 φ0 36 (bodyOf f23) ⟨[(0, .agg [.int .i64 x.1.1, .int .i64 x.1.2.1]), (1, .agg [.int .i64 x.2.1.1, .int .i64 x.2.1.2.1])], []⟩ Q
  refine run_seq ?_
  refine run_reg hm hT hC (ref01_Compare_g0 (ref01_Compare_K d) (x.1.1, x.1.2.1, x.2.1.1, x.2.1.2.1)) h ?_
  intro y0 h
  refine cn_then ?_
  refine run_seq ?_
  refine run_reg hm hT hC (ref01_Compare_g1 (ref01_Compare_K d) y0) h ?_
  intro y1 h
  refine cn_then ?_
  refine run_seq ?_
  refine run_seq ?_
  refine run_reg hm hT hC (ref01_Compare_g2 (ref01_Compare_K d) y1) h ?_
  intro y2 h
  refine cn_then ?_
  refine run_cond (v := y2.1) (by kernel_rfl) h ?_ ?_
  ·
    intro h
    refine run_seq ?_
    refine run_seq ?_
    refine run_reg hm hT hC (ref01_Compare_g3 (ref01_Compare_K d) y2) h ?_
    intro y3 h
    refine cn_then ?_
    refine run_cond (v := y3) (by kernel_rfl) h ?_ ?_
    ·
      intro h
      refine run_seq ?_
      refine run_reg hm hT hC (ref01_Compare_g4 (ref01_Compare_K d) y3) h ?_
      intro y4 h
      refine cn_then ?_
      refine run_ret ?_
      refine cn_then_ret ?_
      refine cn_then_ret ?_
      cases h
      exact (hend _ (by kernel_rfl)).2
    ·
      intro h
      refine run_skip ?_
      refine cn_then ?_
      refine run_seq ?_
      refine run_reg hm hT hC (ref01_Compare_g5 (ref01_Compare_K d) y3) h ?_
      intro y5 h
      refine cn_then ?_
      refine run_ret ?_
      refine cn_then_ret ?_
      cases h
      exact (hend _ (by kernel_rfl)).2
  ·
    intro h
    refine run_skip ?_
    refine cn_then ?_
    refine run_seq ?_
    refine run_seq ?_
    refine run_reg hm hT hC (ref01_Compare_g6 (ref01_Compare_K d) y2) h ?_
    intro y6 h
    refine cn_then ?_
    refine run_cond (v := y6.1) (by kernel_rfl) h ?_ ?_
    ·
      intro h
      refine run_seq ?_
      refine run_reg hm hT hC (ref01_Compare_g7 (ref01_Compare_K d) y6) h ?_
      intro y7 h
      refine cn_then ?_
      refine run_ret ?_
      refine cn_then_ret ?_
      cases h
      exact (hend _ (by kernel_rfl)).2
    ·
      intro h
      refine run_skip ?_
      refine cn_then ?_
      refine run_seq ?_
      refine run_reg hm hT hC (ref01_Compare_g8 (ref01_Compare_K d) y6) h ?_
      intro y8 h
      refine cn_then ?_
      refine run_ret ?_
      cases h
      exact (hend _ (by kernel_rfl)).2
abbrev ref02_Met_ps : List Pk := [.row Riii true, .row Riii true]
abbrev ref02_Met_X : Type := Diii × Diii × Unit
abbrev ref02_Met_R : Type := Int × Int
def ref02_Met_enc (r : ref02_Met_R) : LV × List Ob := (.agg [.int .i64 r.1, .int .i64 r.2], [])
def ref02_Met_sp (F : ref02_Met_X → Option ref02_Met_R) : Go.Tx.Spec := ⟨77, ref02_Met_ps, ref02_Met_R, F, ref02_Met_enc⟩
abbrev ref02_Met_C : Type := (ref01_Make_X → Option ref01_Make_R) × Unit
def ref02_Met_K (d : Nat) : ref02_Met_C := (F_ref01_Make d, ())
def ref02_Met_tab (C : ref02_Met_C) : List Go.Tx.Spec := [ref01_Make_sp C.1]
abbrev ref02_Met_Y0i : Type := Int × Int × Int × Int × Int × Int
def ref02_Met_S0i (v : ref02_Met_Y0i) : St := ⟨[(0, .agg [.int .i64 v.1, .int .i64 v.2.1, .int .i64 v.2.2.1]), (1, .agg [.int .i64 v.2.2.2.1, .int .i64 v.2.2.2.2.1, .int .i64 v.2.2.2.2.2])], []⟩
abbrev ref02_Met_Y0 : Type := Int × Int × Int × Int × Int × Int × Int × Int
def ref02_Met_S0 (v : ref02_Met_Y0) : St := ⟨[(2, .ptr 0 0), (3, .ptr 1 0), (4, .ptr 2 0)], [.cells [.int .i64 v.1, .int .i64 v.2.1, .int .i64 v.2.2.1], .cells [.int .i64 v.2.2.2.1, .int .i64 v.2.2.2.2.1, .int .i64 v.2.2.2.2.2.1], .cells [.int .i64 v.2.2.2.2.2.2.1, .int .i64 v.2.2.2.2.2.2.2]]⟩
def ref02_Met_r0 (C : ref02_Met_C) (v : ref02_Met_Y0i) : Dt ref02_Met_Y0 := (Dt.ret (v.1, v.2.1, v.2.2.1, v.2.2.2.1, v.2.2.2.2.1, v.2.2.2.2.2, (0:Int), (0:Int)))
theorem ref02_Met_g0 (C : ref02_Met_C) (v : ref02_Met_Y0i) : treg tysT (orc (ref02_Met_tab C)) 22 (regO (bodyOf f77) 0) false [(2, .any), (3, .any), (4, .any)] (ref02_Met_S0i v) some = (ref02_Met_r0 C v).eval fun y => some (ref02_Met_S0 y) := by kernel_rfl
abbrev ref02_Met_Y1 : Type := Int × Int × Int × Int
def ref02_Met_S1 (v : ref02_Met_Y1) : St := ⟨[(4, .ptr 0 0), (5, .ptr 1 0)], [.cells [.int .i64 v.1, .int .i64 v.2.1], .cells [.int .i64 v.2.2.1, .int .i64 v.2.2.2]]⟩
def ref02_Met_r1 (C : ref02_Met_C) (v : ref02_Met_Y0) : Dt ref02_Met_Y1 := (Dt.bnd (C.1 (((IntKind.wrap .i64 (v.2.1 - v.2.2.2.2.1)), ()), ((IntKind.wrap .i64 (v.2.2.2.2.2.1 - v.2.2.1)), ()), ())) fun r1 => (Dt.ret (v.2.2.2.2.2.2.1, v.2.2.2.2.2.2.2, r1.1, r1.2.1)))
theorem ref02_Met_g1 (C : ref02_Met_C) (v : ref02_Met_Y0) : treg tysT (orc (ref02_Met_tab C)) 22 (regO (bodyOf f77) 1) false [(4, .any), (5, .any)] (ref02_Met_S0 v) some = (ref02_Met_r1 C v).eval fun y => some (ref02_Met_S1 y) := by kernel_rfl
abbrev ref02_Met_Y2 : Type := Int × Int
def ref02_Met_S2 (v : ref02_Met_Y2) : St := ⟨[(4, .ptr 0 0)], [.cells [.int .i64 v.1, .int .i64 v.2]]⟩
def ref02_Met_r2 (C : ref02_Met_C) (v : ref02_Met_Y1) : Dt ref02_Met_Y2 := (Dt.ret (v.2.2.1, v.2.2.2))
theorem ref02_Met_g2 (C : ref02_Met_C) (v : ref02_Met_Y1) : treg tysT (orc (ref02_Met_tab C)) 22 (regO (bodyOf f77) 2) false [(4, .any)] (ref02_Met_S1 v) some = (ref02_Met_r2 C v).eval fun y => some (ref02_Met_S2 y) := by kernel_rfl
def F_ref02_Met (d : Nat) (x : ref02_Met_X) : Option ref02_Met_R :=
  (ref02_Met_r0 (ref02_Met_K d) (x.1.1, x.1.2.1, x.1.2.2.1, x.2.1.1, x.2.1.2.1, x.2.1.2.2.1)).eval fun y0 =>
  (ref02_Met_r1 (ref02_Met_K d) y0).eval fun y1 =>
  (ref02_Met_r2 (ref02_Met_K d) y1).eval fun y2 =>
  some y2
theorem ref02_Met_cok (d : Nat) : COK prog (ref02_Met_sp (F_ref02_Met d)) := by
  have hm : prog.follows .mixedOrders = true := mixed
  have hT := tys
  have hC0 : OrcOK prog (orc (ref02_Met_tab (ref02_Met_K d))) := orc_ok (by
    intro S hS
    simp only [ref02_Met_tab, List.mem_cons, List.not_mem_nil, or_false] at hS
    subst hS; exact ref01_Make_cok d)
  have hC : OrcOK prog (orc (ref02_Met_tab (ref02_Met_K d))) := hC0
  refine cok_of (c := bodyOf f77) (fn := f77) hT (by kernel_rfl) (by kernel_rfl) (by decide) fun x r h w0 φ0 Q hend => ?_
  replace h : F_ref02_Met d x = some r := h
  unfold F_ref02_Met at h
  show Run prog w0 φ0 22 (bodyOf f77) ⟨[(0, .agg [.int .i64 x.1.1, .int .i64 x.1.2.1, .int .i64 x.1.2.2.1]), (1, .agg [.int .i64 x.2.1.1, .int .i64 x.2.1.2.1, .int .i64 x.2.1.2.2.1])], []⟩ Q
  refine run_seq ?_
  refine run_reg hm hT hC (ref02_Met_g0 (ref02_Met_K d) (x.1.1, x.1.2.1, x.1.2.2.1, x.2.1.1, x.2.1.2.1, x.2.1.2.2.1)) h ?_
  intro y0 h
  refine cn_then ?_
  refine run_seq ?_
  refine run_reg hm hT hC (ref02_Met_g1 (ref02_Met_K d) y0) h ?_
  intro y1 h
  refine cn_then ?_
  refine run_seq ?_
  refine run_reg hm hT hC (ref02_Met_g2 (ref02_Met_K d) y1) h ?_
  intro y2 h
  refine cn_then ?_
  refine run_ret ?_
  cases h
  exact (hend _ (by kernel_rfl)).2
abbrev ref05_Crest_ps : List Pk := [.row RLiiiE true, .row Rii true]
abbrev ref05_Crest_X : Type := DLiiiE × Dii × Unit
abbrev ref05_Crest_R : Type := List Diii
def ref05_Crest_enc (r : ref05_Crest_R) : LV × List Ob := (.rs 0, [.rows Riii r])
def ref05_Crest_sp (F : ref05_Crest_X → Option ref05_Crest_R) : Go.Tx.Spec := ⟨50, ref05_Crest_ps, ref05_Crest_R, F, ref05_Crest_enc⟩
abbrev ref05_Crest_C : Type := (ref01_Compare_X → Option ref01_Compare_R) × (ref03_At_X → Option ref03_At_R) × (ref03_Ordered_X → Option ref03_Ordered_R) × (ref02_Met_X → Option ref02_Met_R) × Unit
def ref05_Crest_K (d : Nat) : ref05_Crest_C := (F_ref01_Compare d, F_ref03_At d, F_ref03_Ordered d, F_ref02_Met d, ())
def ref05_Crest_tab (C : ref05_Crest_C) : List Go.Tx.Spec := [ref01_Compare_sp C.1, ref03_At_sp C.2.1, ref03_Ordered_sp C.2.2.1, ref02_Met_sp C.2.2.2.1]
abbrev ref05_Crest_Y0i : Type := List Diii × Int × Int
def ref05_Crest_S0i (v : ref05_Crest_Y0i) : St := ⟨[(0, .agg [.fz Riii v.1]), (1, .agg [.int .i64 v.2.1, .int .i64 v.2.2])], []⟩
abbrev ref05_Crest_Y0 : Type := List Diii × Int × Int
def ref05_Crest_S0 (v : ref05_Crest_Y0) : St := ⟨[(2, .ptr 0 0), (3, .ptr 1 0)], [.cells [.fz Riii v.1], .cells [.int .i64 v.2.1, .int .i64 v.2.2]]⟩
def ref05_Crest_r0 (C : ref05_Crest_C) (v : ref05_Crest_Y0i) : Dt ref05_Crest_Y0 := (Dt.ret (v.1, v.2.1, v.2.2))
theorem ref05_Crest_g0 (C : ref05_Crest_C) (v : ref05_Crest_Y0i) : treg tysT (orc (ref05_Crest_tab C)) 80 (regO (bodyOf f50) 0) false [(2, (.box [.val Riii])), (3, .any)] (ref05_Crest_S0i v) some = (ref05_Crest_r0 C v).eval fun y => some (ref05_Crest_S0 y) := by kernel_rfl
abbrev ref05_Crest_Y1 : Type := List Diii × Int × Int
def ref05_Crest_S1 (v : ref05_Crest_Y1) : St := ⟨[(2, .ptr 0 0), (5, .ptr 1 0)], [.cells [.fz Riii v.1], .cells [.int .i64 v.2.1, .int .i64 v.2.2]]⟩
def ref05_Crest_r1 (C : ref05_Crest_C) (v : ref05_Crest_Y0) : Dt ref05_Crest_Y1 := (Dt.ret (v.1, v.2.1, v.2.2))
theorem ref05_Crest_g1 (C : ref05_Crest_C) (v : ref05_Crest_Y0) : treg tysT (orc (ref05_Crest_tab C)) 80 (regO (bodyOf f50) 1) false [(2, (.box [.val Riii])), (5, .any)] (ref05_Crest_S0 v) some = (ref05_Crest_r1 C v).eval fun y => some (ref05_Crest_S1 y) := by kernel_rfl
abbrev ref05_Crest_Y2 : Type := List Diii × List Diii
def ref05_Crest_S2 (v : ref05_Crest_Y2) : St := ⟨[(2, .ptr 0 0), (6, .rs 1)], [.cells [.fz Riii v.1], .rows Riii v.2]⟩
def ref05_Crest_r2 (C : ref05_Crest_C) (v : ref05_Crest_Y1) : Dt ref05_Crest_Y2 := (Dt.bnd (C.2.2.1 ((v.1, ()), (v.2.1, v.2.2, ()), ())) fun r1 => (Dt.ite (inB (0:Int) (List.length r1)) (Dt.ret (v.1, ([(v.2.1, v.2.2, (elt zi r1 ((0:Int)).toNat).1, ())] : List Diii))) Dt.fail))
theorem ref05_Crest_g2 (C : ref05_Crest_C) (v : ref05_Crest_Y1) : treg tysT (orc (ref05_Crest_tab C)) 80 (regO (bodyOf f50) 2) true [(2, (.box [.val Riii])), (6, (.own Riii))] (ref05_Crest_S1 v) some = (ref05_Crest_r2 C v).eval fun y => some (ref05_Crest_S2 y) := by kernel_rfl
abbrev ref05_Crest_Y3 : Type := List Diii × List Diii × Int × Int × Int
def ref05_Crest_S3 (v : ref05_Crest_Y3) : St := ⟨[(2, .ptr 0 0), (6, .rs 1), (7, .ptr 2 0)], [.cells [.fz Riii v.1], .rows Riii v.2.1, .cells [.int .i64 v.2.2.1, .int .i64 v.2.2.2.1, .int .i64 v.2.2.2.2]]⟩
def ref05_Crest_r3 (C : ref05_Crest_C) (v : ref05_Crest_Y2) : Dt ref05_Crest_Y3 := (Dt.ite (inB (IntKind.wrap .i64 ((List.length v.2 : Int) - (1:Int))) (List.length v.2)) (Dt.bnd (C.2.1 ((v.1, ()), ((elt ziii v.2 ((IntKind.wrap .i64 ((List.length v.2 : Int) - (1:Int)))).toNat).2.2.1, ()), ())) fun r1 => (Dt.ite (inB r1 (List.length v.1)) (Dt.ret (v.1, v.2, (elt ziii v.1 (r1).toNat).1, (elt ziii v.1 (r1).toNat).2.1, (elt ziii v.1 (r1).toNat).2.2.1)) Dt.fail)) Dt.fail)
theorem ref05_Crest_g3 (C : ref05_Crest_C) (v : ref05_Crest_Y2) : treg tysT (orc (ref05_Crest_tab C)) 80 (regO (bodyOf f50) 3) true [(2, (.box [.val Riii])), (6, (.own Riii)), (7, .any)] (ref05_Crest_S2 v) some = (ref05_Crest_r3 C v).eval fun y => some (ref05_Crest_S3 y) := by kernel_rfl
abbrev ref05_Crest_Y4 : Type := Bool × List Diii × List Diii × Int × Int × Int × Int × Int
def ref05_Crest_S4 (v : ref05_Crest_Y4) : St := ⟨[(2, .ptr 0 0), (6, .rs 1), (7, .ptr 2 0), (8, .ptr 3 0), (9, .bool v.1)], [.cells [.fz Riii v.2.1], .rows Riii v.2.2.1, .cells [.int .i64 v.2.2.2.1, .int .i64 v.2.2.2.2.1, .int .i64 v.2.2.2.2.2.1], .cells [.int .i64 v.2.2.2.2.2.2.1, .int .i64 v.2.2.2.2.2.2.2]]⟩
def ref05_Crest_r4 (C : ref05_Crest_C) (v : ref05_Crest_Y3) : Dt ref05_Crest_Y4 := (Dt.ret (false, v.1, v.2.1, v.2.2.1, v.2.2.2.1, v.2.2.2.2, (0:Int), (0:Int)))
theorem ref05_Crest_g4 (C : ref05_Crest_C) (v : ref05_Crest_Y3) : treg tysT (orc (ref05_Crest_tab C)) 80 (regO (bodyOf f50) 4) false [(2, (.box [.val Riii])), (6, (.own Riii)), (7, .any), (8, .any), (9, .any)] (ref05_Crest_S3 v) some = (ref05_Crest_r4 C v).eval fun y => some (ref05_Crest_S4 y) := by kernel_rfl
abbrev ref05_Crest_Y5 : Type := Bool × Int × List Diii × List Diii × Int × Int × Int × Int × Int
def ref05_Crest_S5 (v : ref05_Crest_Y5) : St := ⟨[(2, .ptr 0 0), (6, .rs 1), (7, .ptr 2 0), (8, .ptr 3 0), (9, .bool v.1), (10, .int .i64 v.2.1)], [.cells [.fz Riii v.2.2.1], .rows Riii v.2.2.2.1, .cells [.int .i64 v.2.2.2.2.1, .int .i64 v.2.2.2.2.2.1, .int .i64 v.2.2.2.2.2.2.1], .cells [.int .i64 v.2.2.2.2.2.2.2.1, .int .i64 v.2.2.2.2.2.2.2.2]]⟩
def ref05_Crest_r5 (C : ref05_Crest_C) (v : ref05_Crest_Y4) : Dt ref05_Crest_Y5 := (Dt.ret (v.1, (0:Int), v.2.1, v.2.2.1, v.2.2.2.1, v.2.2.2.2.1, v.2.2.2.2.2.1, v.2.2.2.2.2.2.1, v.2.2.2.2.2.2.2))
theorem ref05_Crest_g5 (C : ref05_Crest_C) (v : ref05_Crest_Y4) : treg tysT (orc (ref05_Crest_tab C)) 80 (regO (bodyOf f50) 5) false [(2, (.box [.val Riii])), (6, (.own Riii)), (7, .any), (8, .any), (9, .any), (10, .any)] (ref05_Crest_S4 v) some = (ref05_Crest_r5 C v).eval fun y => some (ref05_Crest_S5 y) := by kernel_rfl
abbrev ref05_Crest_Y6 : Type := Bool × Int × Bool × List Diii × List Diii × Int × Int × Int × Int × Int
def ref05_Crest_S6 (v : ref05_Crest_Y6) : St := ⟨[(2, .ptr 0 0), (6, .rs 1), (7, .ptr 2 0), (8, .ptr 3 0), (9, .bool v.1), (10, .int .i64 v.2.1), (39, .bool v.2.2.1)], [.cells [.fz Riii v.2.2.2.1], .rows Riii v.2.2.2.2.1, .cells [.int .i64 v.2.2.2.2.2.1, .int .i64 v.2.2.2.2.2.2.1, .int .i64 v.2.2.2.2.2.2.2.1], .cells [.int .i64 v.2.2.2.2.2.2.2.2.1, .int .i64 v.2.2.2.2.2.2.2.2.2]]⟩
def ref05_Crest_r6 (C : ref05_Crest_C) (v : ref05_Crest_Y5) : Dt ref05_Crest_Y6 := (Dt.ret (v.1, v.2.1, (decide (v.2.1 < (List.length v.2.2.1 : Int))), v.2.2.1, v.2.2.2.1, v.2.2.2.2.1, v.2.2.2.2.2.1, v.2.2.2.2.2.2.1, v.2.2.2.2.2.2.2.1, v.2.2.2.2.2.2.2.2))
theorem ref05_Crest_g6 (C : ref05_Crest_C) (v : ref05_Crest_Y5) : treg tysT (orc (ref05_Crest_tab C)) 80 (regO (bodyOf f50) 6) false [(2, (.box [.val Riii])), (6, (.own Riii)), (7, .any), (8, .any), (9, .any), (10, .any), (39, .any)] (ref05_Crest_S5 v) some = (ref05_Crest_r6 C v).eval fun y => some (ref05_Crest_S6 y) := by kernel_rfl
abbrev ref05_Crest_Y8 : Type := Bool × Int × Bool × List Diii × List Diii × Int × Int × Int × Int × Int
def ref05_Crest_S8 (v : ref05_Crest_Y8) : St := ⟨[(2, .ptr 0 0), (6, .rs 1), (7, .ptr 2 0), (8, .ptr 3 0), (9, .bool v.1), (10, .int .i64 v.2.1), (50, .bool v.2.2.1)], [.cells [.fz Riii v.2.2.2.1], .rows Riii v.2.2.2.2.1, .cells [.int .i64 v.2.2.2.2.2.1, .int .i64 v.2.2.2.2.2.2.1, .int .i64 v.2.2.2.2.2.2.2.1], .cells [.int .i64 v.2.2.2.2.2.2.2.2.1, .int .i64 v.2.2.2.2.2.2.2.2.2]]⟩
def ref05_Crest_r8 (C : ref05_Crest_C) (v : ref05_Crest_Y6) : Dt ref05_Crest_Y8 := (Dt.ite (inB v.2.1 (List.length v.2.2.2.1)) (Dt.ret (v.1, v.2.1, (decide ((elt ziii v.2.2.2.1 (v.2.1).toNat).2.2.1 ≤ v.2.2.2.2.2.2.2.1)), v.2.2.2.1, v.2.2.2.2.1, v.2.2.2.2.2.1, v.2.2.2.2.2.2.1, v.2.2.2.2.2.2.2.1, v.2.2.2.2.2.2.2.2.1, v.2.2.2.2.2.2.2.2.2)) Dt.fail)
theorem ref05_Crest_g8 (C : ref05_Crest_C) (v : ref05_Crest_Y6) : treg tysT (orc (ref05_Crest_tab C)) 80 (regO (bodyOf f50) 8) true [(2, (.box [.val Riii])), (6, (.own Riii)), (7, .any), (8, .any), (9, .any), (10, .any), (50, .any)] (ref05_Crest_S6 v) some = (ref05_Crest_r8 C v).eval fun y => some (ref05_Crest_S8 y) := by kernel_rfl
def ref05_Crest_r7 (C : ref05_Crest_C) (v : ref05_Crest_Y5) : Dt ref05_Crest_Y5 := (Dt.ret (v.1, (IntKind.wrap .i64 (v.2.1 + (1:Int))), v.2.2.1, v.2.2.2.1, v.2.2.2.2.1, v.2.2.2.2.2.1, v.2.2.2.2.2.2.1, v.2.2.2.2.2.2.2.1, v.2.2.2.2.2.2.2.2))
theorem ref05_Crest_g7 (C : ref05_Crest_C) (v : ref05_Crest_Y5) : treg tysT (orc (ref05_Crest_tab C)) 80 (regO (bodyOf f50) 7) false [(2, (.box [.val Riii])), (6, (.own Riii)), (7, .any), (8, .any), (9, .any), (10, .any)] (ref05_Crest_S5 v) some = (ref05_Crest_r7 C v).eval fun y => some (ref05_Crest_S5 y) := by kernel_rfl
def ref05_Crest_J3  (d : Nat) (self1 : (List Diii × List Diii) → Option ref05_Crest_R) (self2 : (Bool × Int × List Diii × List Diii × Int × Int × Int × Int × Int) → Option ref05_Crest_R) (z : Bool × Int × List Diii × List Diii × Int × Int × Int × Int × Int) : Option (ref05_Crest_R) :=
  (ref05_Crest_r7 (ref05_Crest_K d) z).eval fun y7 =>
  self2 y7
abbrev ref05_Crest_Y9 : Type := Bool × Int × List Diii × List Diii × Int × Int × Int × Int × Int × Int × Int
def ref05_Crest_S9 (v : ref05_Crest_Y9) : St := ⟨[(2, .ptr 0 0), (6, .rs 1), (7, .ptr 2 0), (8, .ptr 3 0), (9, .bool v.1), (10, .int .i64 v.2.1), (11, .ptr 4 0)], [.cells [.fz Riii v.2.2.1], .rows Riii v.2.2.2.1, .cells [.int .i64 v.2.2.2.2.1, .int .i64 v.2.2.2.2.2.1, .int .i64 v.2.2.2.2.2.2.1], .cells [.int .i64 v.2.2.2.2.2.2.2.1, .int .i64 v.2.2.2.2.2.2.2.2.1], .cells [.int .i64 v.2.2.2.2.2.2.2.2.2.1, .int .i64 v.2.2.2.2.2.2.2.2.2.2]]⟩
def ref05_Crest_r9 (C : ref05_Crest_C) (v : ref05_Crest_Y8) : Dt ref05_Crest_Y9 := (Dt.ite (inB v.2.1 (List.length v.2.2.2.1)) (Dt.bnd (C.2.2.2.1 ((v.2.2.2.2.2.1, v.2.2.2.2.2.2.1, v.2.2.2.2.2.2.2.1, ()), ((elt ziii v.2.2.2.1 (v.2.1).toNat).1, (elt ziii v.2.2.2.1 (v.2.1).toNat).2.1, (elt ziii v.2.2.2.1 (v.2.1).toNat).2.2.1, ()), ())) fun r1 => (Dt.ret (v.1, v.2.1, v.2.2.2.1, v.2.2.2.2.1, v.2.2.2.2.2.1, v.2.2.2.2.2.2.1, v.2.2.2.2.2.2.2.1, v.2.2.2.2.2.2.2.2.1, v.2.2.2.2.2.2.2.2.2, r1.1, r1.2))) Dt.fail)
theorem ref05_Crest_g9 (C : ref05_Crest_C) (v : ref05_Crest_Y8) : treg tysT (orc (ref05_Crest_tab C)) 80 (regO (bodyOf f50) 9) true [(2, (.box [.val Riii])), (6, (.own Riii)), (7, .any), (8, .any), (9, .any), (10, .any), (11, .any)] (ref05_Crest_S8 v) some = (ref05_Crest_r9 C v).eval fun y => some (ref05_Crest_S9 y) := by kernel_rfl
abbrev ref05_Crest_Y10 : Type := Bool × Int × Bool × List Diii × List Diii × Int × Int × Int × Int × Int × Int × Int
def ref05_Crest_S10 (v : ref05_Crest_Y10) : St := ⟨[(2, .ptr 0 0), (6, .rs 1), (7, .ptr 2 0), (8, .ptr 3 0), (9, .bool v.1), (10, .int .i64 v.2.1), (11, .ptr 4 0), (65, .bool v.2.2.1)], [.cells [.fz Riii v.2.2.2.1], .rows Riii v.2.2.2.2.1, .cells [.int .i64 v.2.2.2.2.2.1, .int .i64 v.2.2.2.2.2.2.1, .int .i64 v.2.2.2.2.2.2.2.1], .cells [.int .i64 v.2.2.2.2.2.2.2.2.1, .int .i64 v.2.2.2.2.2.2.2.2.2.1], .cells [.int .i64 v.2.2.2.2.2.2.2.2.2.2.1, .int .i64 v.2.2.2.2.2.2.2.2.2.2.2]]⟩
def ref05_Crest_r10 (C : ref05_Crest_C) (v : ref05_Crest_Y9) : Dt ref05_Crest_Y10 := (Dt.ite (!v.1) (Dt.ret (v.1, v.2.1, true, v.2.2.1, v.2.2.2.1, v.2.2.2.2.1, v.2.2.2.2.2.1, v.2.2.2.2.2.2.1, v.2.2.2.2.2.2.2.1, v.2.2.2.2.2.2.2.2.1, v.2.2.2.2.2.2.2.2.2.1, v.2.2.2.2.2.2.2.2.2.2)) (Dt.bnd (C.1 ((v.2.2.2.2.2.2.2.2.2.1, v.2.2.2.2.2.2.2.2.2.2, ()), (v.2.2.2.2.2.2.2.1, v.2.2.2.2.2.2.2.2.1, ()), ())) fun r1 => (Dt.ret (v.1, v.2.1, (decide (r1 < (0:Int))), v.2.2.1, v.2.2.2.1, v.2.2.2.2.1, v.2.2.2.2.2.1, v.2.2.2.2.2.2.1, v.2.2.2.2.2.2.2.1, v.2.2.2.2.2.2.2.2.1, v.2.2.2.2.2.2.2.2.2.1, v.2.2.2.2.2.2.2.2.2.2))))
theorem ref05_Crest_g10 (C : ref05_Crest_C) (v : ref05_Crest_Y9) : treg tysT (orc (ref05_Crest_tab C)) 80 (regO (bodyOf f50) 10) false [(2, (.box [.val Riii])), (6, (.own Riii)), (7, .any), (8, .any), (9, .any), (10, .any), (11, .any), (65, .any)] (ref05_Crest_S9 v) some = (ref05_Crest_r10 C v).eval fun y => some (ref05_Crest_S10 y) := by kernel_rfl
def ref05_Crest_r11 (C : ref05_Crest_C) (v : ref05_Crest_Y10) : Dt ref05_Crest_Y5 := (Dt.ret (true, v.2.1, v.2.2.2.1, v.2.2.2.2.1, v.2.2.2.2.2.1, v.2.2.2.2.2.2.1, v.2.2.2.2.2.2.2.1, v.2.2.2.2.2.2.2.2.2.2.1, v.2.2.2.2.2.2.2.2.2.2.2))
theorem ref05_Crest_g11 (C : ref05_Crest_C) (v : ref05_Crest_Y10) : treg tysT (orc (ref05_Crest_tab C)) 80 (regO (bodyOf f50) 11) false [(2, (.box [.val Riii])), (6, (.own Riii)), (7, .any), (8, .any), (9, .any), (10, .any)] (ref05_Crest_S10 v) some = (ref05_Crest_r11 C v).eval fun y => some (ref05_Crest_S5 y) := by kernel_rfl
abbrev ref05_Crest_Y12 : Type := Bool × List Diii × List Diii × Int × Int
def ref05_Crest_S12 (v : ref05_Crest_Y12) : St := ⟨[(2, .ptr 0 0), (6, .rs 1), (8, .ptr 2 0), (68, .bool v.1)], [.cells [.fz Riii v.2.1], .rows Riii v.2.2.1, .cells [.int .i64 v.2.2.2.1, .int .i64 v.2.2.2.2]]⟩
def ref05_Crest_r12 (C : ref05_Crest_C) (v : ref05_Crest_Y6) : Dt ref05_Crest_Y12 := (Dt.ret ((!v.1), v.2.2.2.1, v.2.2.2.2.1, v.2.2.2.2.2.2.2.2.1, v.2.2.2.2.2.2.2.2.2))
theorem ref05_Crest_g12 (C : ref05_Crest_C) (v : ref05_Crest_Y6) : treg tysT (orc (ref05_Crest_tab C)) 80 (regO (bodyOf f50) 12) false [(2, (.box [.val Riii])), (6, (.own Riii)), (8, .any), (68, .any)] (ref05_Crest_S6 v) some = (ref05_Crest_r12 C v).eval fun y => some (ref05_Crest_S12 y) := by kernel_rfl
abbrev ref05_Crest_Y13 : Type := List Diii
def ref05_Crest_S13 (v : ref05_Crest_Y13) : St := ⟨[(4, .rs 0)], [.rows Riii v]⟩
def ref05_Crest_r13 (C : ref05_Crest_C) (v : ref05_Crest_Y12) : Dt ref05_Crest_Y13 := (Dt.ret v.2.2.1)
theorem ref05_Crest_g13 (C : ref05_Crest_C) (v : ref05_Crest_Y12) : treg tysT (orc (ref05_Crest_tab C)) 80 (regO (bodyOf f50) 13) false [(4, (.own Riii))] (ref05_Crest_S12 v) some = (ref05_Crest_r13 C v).eval fun y => some (ref05_Crest_S13 y) := by kernel_rfl
def ref05_Crest_r14 (C : ref05_Crest_C) (v : ref05_Crest_Y12) : Dt ref05_Crest_Y2 := (Dt.bnd (C.2.2.1 ((v.2.1, ()), (v.2.2.2.1, v.2.2.2.2, ()), ())) fun r1 => (Dt.ite (inB (0:Int) (List.length r1)) (Dt.ite (apB (List.length v.2.2.1) (List.length ([(v.2.2.2.1, v.2.2.2.2, (elt zi r1 ((0:Int)).toNat).1, ())] : List Diii))) (Dt.ret (v.2.1, (v.2.2.1 ++ ([(v.2.2.2.1, v.2.2.2.2, (elt zi r1 ((0:Int)).toNat).1, ())] : List Diii)))) Dt.fail) Dt.fail))
theorem ref05_Crest_g14 (C : ref05_Crest_C) (v : ref05_Crest_Y12) : treg tysT (orc (ref05_Crest_tab C)) 80 (regO (bodyOf f50) 14) true [(2, (.box [.val Riii])), (6, (.own Riii))] (ref05_Crest_S12 v) some = (ref05_Crest_r14 C v).eval fun y => some (ref05_Crest_S2 y) := by kernel_rfl
def ref05_Crest_L2 (d : Nat) (self1 : (List Diii × List Diii) → Option ref05_Crest_R) (self2 : (Bool × Int × List Diii × List Diii × Int × Int × Int × Int × Int) → Option ref05_Crest_R) (x2 : Bool × Int × List Diii × List Diii × Int × Int × Int × Int × Int) : Option ref05_Crest_R :=
  (ref05_Crest_r6 (ref05_Crest_K d) x2).eval fun y6 =>
  bif y6.2.2.1 then ((ref05_Crest_r8 (ref05_Crest_K d) y6).eval fun y8 =>
  bif y8.2.2.1 then (ref05_Crest_J3 d self1 self2 (y8.1, y8.2.1, y8.2.2.2.1, y8.2.2.2.2.1, y8.2.2.2.2.2.1, y8.2.2.2.2.2.2.1, y8.2.2.2.2.2.2.2.1, y8.2.2.2.2.2.2.2.2.1, y8.2.2.2.2.2.2.2.2.2)) else ((ref05_Crest_r9 (ref05_Crest_K d) y8).eval fun y9 =>
  (ref05_Crest_r10 (ref05_Crest_K d) y9).eval fun y10 =>
  bif y10.2.2.1 then ((ref05_Crest_r11 (ref05_Crest_K d) y10).eval fun y11 =>
  ref05_Crest_J3 d self1 self2 y11) else (ref05_Crest_J3 d self1 self2 (y10.1, y10.2.1, y10.2.2.2.1, y10.2.2.2.2.1, y10.2.2.2.2.2.1, y10.2.2.2.2.2.2.1, y10.2.2.2.2.2.2.2.1, y10.2.2.2.2.2.2.2.2.1, y10.2.2.2.2.2.2.2.2.2.1)))) else ((ref05_Crest_r12 (ref05_Crest_K d) y6).eval fun y12 =>
  bif y12.1 then ((ref05_Crest_r13 (ref05_Crest_K d) y12).eval fun y13 =>
  some y13) else ((ref05_Crest_r14 (ref05_Crest_K d) y12).eval fun y14 =>
  self1 y14))
def ref05_Crest_L1 (d : Nat) (self1 : (List Diii × List Diii) → Option ref05_Crest_R) (x1 : List Diii × List Diii) : Option ref05_Crest_R :=
  (ref05_Crest_r3 (ref05_Crest_K d) x1).eval fun y3 =>
  (ref05_Crest_r4 (ref05_Crest_K d) y3).eval fun y4 =>
  (ref05_Crest_r5 (ref05_Crest_K d) y4).eval fun y5 =>
  iter (ref05_Crest_L2 d self1) d y5
def F_ref05_Crest (d : Nat) (x : ref05_Crest_X) : Option ref05_Crest_R :=
  (ref05_Crest_r0 (ref05_Crest_K d) (x.1.1, x.2.1.1, x.2.1.2.1)).eval fun y0 =>
  (ref05_Crest_r1 (ref05_Crest_K d) y0).eval fun y1 =>
  (ref05_Crest_r2 (ref05_Crest_K d) y1).eval fun y2 =>
  iter (ref05_Crest_L1 d ) d y2
theorem ref05_Crest_cok (d : Nat) : COK prog (ref05_Crest_sp (F_ref05_Crest d)) := by
  have hm : prog.follows .mixedOrders = true := mixed
  have hT := tys
  have hC0 : OrcOK prog (orc (ref05_Crest_tab (ref05_Crest_K d))) := orc_ok (by
    intro S hS
    simp only [ref05_Crest_tab, List.mem_cons, List.not_mem_nil, or_false] at hS
    rcases hS with rfl | rfl | rfl | rfl
    · exact ref01_Compare_cok d
    · exact ref03_At_cok d
    · exact ref03_Ordered_cok d
    · exact ref02_Met_cok d)
  have hC : OrcOK prog (orc (ref05_Crest_tab (ref05_Crest_K d))) := hC0
  refine cok_of (c := bodyOf f50) (fn := f50) hT (by kernel_rfl) (by kernel_rfl) (by decide) fun x r h w0 φ0 Q hend => ?_
  replace h : F_ref05_Crest d x = some r := h
  unfold F_ref05_Crest at h
  show Run prog w0 φ0 80 (bodyOf f50) ⟨[(0, .agg [.fz Riii x.1.1]), (1, .agg [.int .i64 x.2.1.1, .int .i64 x.2.1.2.1])], []⟩ Q
  refine run_seq ?_
  refine run_reg hm hT hC (ref05_Crest_g0 (ref05_Crest_K d) (x.1.1, x.2.1.1, x.2.1.2.1)) h ?_
  intro y0 h
  refine cn_then ?_
  refine run_seq ?_
  refine run_reg hm hT hC (ref05_Crest_g1 (ref05_Crest_K d) y0) h ?_
  intro y1 h
  refine cn_then ?_
  refine run_seq ?_
  refine run_reg hm hT hC (ref05_Crest_g2 (ref05_Crest_K d) y1) h ?_
  intro y2 h
  refine cn_then ?_
  refine run_block ?_
  refine run_loop (G := iter (ref05_Crest_L1 d )) (S := (fun x1 => ⟨[(2, .ptr 0 0), (6, .rs 1)], [.cells [.fz Riii x1.1], .rows Riii x1.2]⟩ : List Diii × List Diii → St)) (fun _ => rfl) ?_ d _ h
  intro n1 x1 h K1 hn1
  replace h : ref05_Crest_L1 d  (iter (ref05_Crest_L1 d ) n1) x1 = some r := h
  generalize iter (ref05_Crest_L1 d ) n1 = self1 at h hn1
  unfold ref05_Crest_L1 at h
  refine run_block ?_
  refine run_seq ?_
  refine run_reg hm hT hC (ref05_Crest_g3 (ref05_Crest_K d) x1) h ?_
  intro y3 h
  refine cn_then ?_
  refine run_seq ?_
  refine run_reg hm hT hC (ref05_Crest_g4 (ref05_Crest_K d) y3) h ?_
  intro y4 h
  refine cn_then ?_
  refine run_seq ?_
  refine run_seq ?_
  refine run_reg hm hT hC (ref05_Crest_g5 (ref05_Crest_K d) y4) h ?_
  intro y5 h
  refine cn_then ?_
  refine run_block ?_
  refine run_loop (G := iter (ref05_Crest_L2 d self1)) (S := (fun x2 => ⟨[(2, .ptr 0 0), (6, .rs 1), (7, .ptr 2 0), (8, .ptr 3 0), (9, .bool x2.1), (10, .int .i64 x2.2.1)], [.cells [.fz Riii x2.2.2.1], .rows Riii x2.2.2.2.1, .cells [.int .i64 x2.2.2.2.2.1, .int .i64 x2.2.2.2.2.2.1, .int .i64 x2.2.2.2.2.2.2.1], .cells [.int .i64 x2.2.2.2.2.2.2.2.1, .int .i64 x2.2.2.2.2.2.2.2.2]]⟩ : Bool × Int × List Diii × List Diii × Int × Int × Int × Int × Int → St)) (fun _ => rfl) ?_ d _ h
  intro n2 x2 h K2 hn2
  replace h : ref05_Crest_L2 d self1 (iter (ref05_Crest_L2 d self1) n2) x2 = some r := h
  generalize iter (ref05_Crest_L2 d self1) n2 = self2 at h hn2
  unfold ref05_Crest_L2 at h
  refine run_seq ?_
  refine run_seq ?_
  refine run_reg hm hT hC (ref05_Crest_g6 (ref05_Crest_K d) x2) h ?_
  intro y6 h
  refine cn_then ?_
  refine run_cond (v := y6.2.2.1) (by kernel_rfl) h ?_ ?_
  ·
    intro h
    refine run_skip ?_
    refine cn_then ?_
    refine run_join (r := r) (F := ref05_Crest_J3 d self1 self2) (S := (fun z => ⟨[(2, .ptr 0 0), (6, .rs 1), (7, .ptr 2 0), (8, .ptr 3 0), (9, .bool z.1), (10, .int .i64 z.2.1)], [.cells [.fz Riii z.2.2.1], .rows Riii z.2.2.2.1, .cells [.int .i64 z.2.2.2.2.1, .int .i64 z.2.2.2.2.2.1, .int .i64 z.2.2.2.2.2.2.1], .cells [.int .i64 z.2.2.2.2.2.2.2.1, .int .i64 z.2.2.2.2.2.2.2.2]]⟩ : Bool × Int × List Diii × List Diii × Int × Int × Int × Int × Int → St)) ?_ ?_
    ·
      intro z h
      unfold ref05_Crest_J3 at h
      refine run_reg hm hT hC (ref05_Crest_g7 (ref05_Crest_K d) z) h ?_
      intro y7 h
      exact hn2 _ h
    intro hj3
    refine run_block ?_
    refine run_seq ?_
    refine run_seq ?_
    refine run_reg hm hT hC (ref05_Crest_g8 (ref05_Crest_K d) y6) h ?_
    intro y8 h
    refine cn_then ?_
    refine run_cond (v := y8.2.2.1) (by kernel_rfl) h ?_ ?_
    ·
      intro h
      refine run_exit ?_
      refine cn_then_exit ?_
      refine cn_blk_eq ?_
      refine cn_num (s := ⟨[(2, .ptr 0 0), (6, .rs 1), (7, .ptr 2 0), (8, .ptr 3 0), (9, .bool y8.1), (10, .int .i64 y8.2.1)], [.cells [.fz Riii y8.2.2.2.1], .rows Riii y8.2.2.2.2.1, .cells [.int .i64 y8.2.2.2.2.2.1, .int .i64 y8.2.2.2.2.2.2.1, .int .i64 y8.2.2.2.2.2.2.2.1], .cells [.int .i64 y8.2.2.2.2.2.2.2.2.1, .int .i64 y8.2.2.2.2.2.2.2.2.2]]⟩) [50] (by kernel_rfl) ?_
      exact hj3 _ h
    ·
      intro h
      refine run_skip ?_
      refine cn_then ?_
      refine run_seq ?_
      refine run_reg hm hT hC (ref05_Crest_g9 (ref05_Crest_K d) y8) h ?_
      intro y9 h
      refine cn_then ?_
      refine run_seq ?_
      refine run_reg hm hT hC (ref05_Crest_g10 (ref05_Crest_K d) y9) h ?_
      intro y10 h
      refine cn_then ?_
      refine run_cond (v := y10.2.2.1) (by kernel_rfl) h ?_ ?_
      ·
        intro h
        refine run_reg hm hT hC (ref05_Crest_g11 (ref05_Crest_K d) y10) h ?_
        intro y11 h
        refine cn_blk ?_
        exact hj3 _ h
      ·
        intro h
        refine run_skip ?_
        refine cn_blk ?_
        refine cn_num (s := ⟨[(2, .ptr 0 0), (6, .rs 1), (7, .ptr 2 0), (8, .ptr 3 0), (9, .bool y10.1), (10, .int .i64 y10.2.1)], [.cells [.fz Riii y10.2.2.2.1], .rows Riii y10.2.2.2.2.1, .cells [.int .i64 y10.2.2.2.2.2.1, .int .i64 y10.2.2.2.2.2.2.1, .int .i64 y10.2.2.2.2.2.2.2.1], .cells [.int .i64 y10.2.2.2.2.2.2.2.2.1, .int .i64 y10.2.2.2.2.2.2.2.2.2.1]]⟩) [11, 65] (by kernel_rfl) ?_
        exact hj3 _ h
  ·
    intro h
    refine run_exit ?_
    refine cn_then_exit ?_
    refine cn_then_exit ?_
    refine cn_blk_eq ?_
    refine cn_then ?_
    refine run_seq ?_
    refine run_seq ?_
    refine run_reg hm hT hC (ref05_Crest_g12 (ref05_Crest_K d) y6) h ?_
    intro y12 h
    refine cn_then ?_
    refine run_cond (v := y12.1) (by kernel_rfl) h ?_ ?_
    ·
      intro h
      refine run_seq ?_
      refine run_reg hm hT hC (ref05_Crest_g13 (ref05_Crest_K d) y12) h ?_
      intro y13 h
      refine cn_then ?_
      refine run_ret ?_
      refine cn_then_ret ?_
      refine cn_blk_ret ?_
      refine cn_then_ret ?_
      refine cn_blk_ret ?_
      cases h
      exact (hend _ (by kernel_rfl)).2
    ·
      intro h
      refine run_skip ?_
      refine cn_then ?_
      refine run_reg hm hT hC (ref05_Crest_g14 (ref05_Crest_K d) y12) h ?_
      intro y14 h
      refine cn_blk ?_
      exact hn1 _ h
abbrev ref05_Of_ps : List Pk := [.row RLiiiE true, .row Rii true]
abbrev ref05_Of_X : Type := DLiiiE × Dii × Unit
abbrev ref05_Of_R : Type := List Diii × Int
def ref05_Of_enc (r : ref05_Of_R) : LV × List Ob := (.tup [.rs 0, .int .i64 r.2], [.rows Riii r.1])
def ref05_Of_sp (F : ref05_Of_X → Option ref05_Of_R) : Go.Tx.Spec := ⟨15, ref05_Of_ps, ref05_Of_R, F, ref05_Of_enc⟩
abbrev ref05_Of_C : Type := (ref03_Timed_X → Option ref03_Timed_R) × (ref05_Crest_X → Option ref05_Crest_R) × Unit
def ref05_Of_K (d : Nat) : ref05_Of_C := (F_ref03_Timed d, F_ref05_Crest d, ())
def ref05_Of_tab (C : ref05_Of_C) : List Go.Tx.Spec := [ref03_Timed_sp C.1, ref05_Crest_sp C.2.1]
abbrev ref05_Of_Y0i : Type := List Diii × Int × Int
def ref05_Of_S0i (v : ref05_Of_Y0i) : St := ⟨[(0, .agg [.fz Riii v.1]), (1, .agg [.int .i64 v.2.1, .int .i64 v.2.2])], []⟩
abbrev ref05_Of_Y0 : Type := List Diii × Int × Int
def ref05_Of_S0 (v : ref05_Of_Y0) : St := ⟨[(2, .ptr 0 0), (3, .ptr 1 0)], [.cells [.fz Riii v.1], .cells [.int .i64 v.2.1, .int .i64 v.2.2]]⟩
def ref05_Of_r0 (C : ref05_Of_C) (v : ref05_Of_Y0i) : Dt ref05_Of_Y0 := (Dt.ret (v.1, v.2.1, v.2.2))
theorem ref05_Of_g0 (C : ref05_Of_C) (v : ref05_Of_Y0i) : treg tysT (orc (ref05_Of_tab C)) 20 (regO (bodyOf f15) 0) false [(2, (.box [.val Riii])), (3, .any)] (ref05_Of_S0i v) some = (ref05_Of_r0 C v).eval fun y => some (ref05_Of_S0 y) := by kernel_rfl
abbrev ref05_Of_Y1 : Type := Int × List Diii × Int × Int
def ref05_Of_S1 (v : ref05_Of_Y1) : St := ⟨[(2, .ptr 0 0), (3, .ptr 1 0), (6, .int .i64 v.1)], [.cells [.fz Riii v.2.1], .cells [.int .i64 v.2.2.1, .int .i64 v.2.2.2]]⟩
def ref05_Of_r1 (C : ref05_Of_C) (v : ref05_Of_Y0) : Dt ref05_Of_Y1 := (Dt.bnd (C.1 ((v.1, ()), (v.2.1, v.2.2, ()), ())) fun r1 => (Dt.ret (r1, v.1, v.2.1, v.2.2)))
theorem ref05_Of_g1 (C : ref05_Of_C) (v : ref05_Of_Y0) : treg tysT (orc (ref05_Of_tab C)) 20 (regO (bodyOf f15) 1) false [(2, (.box [.val Riii])), (3, .any), (6, .any)] (ref05_Of_S0 v) some = (ref05_Of_r1 C v).eval fun y => some (ref05_Of_S1 y) := by kernel_rfl
abbrev ref05_Of_Y2 : Type := Int × Bool × List Diii × Int × Int
def ref05_Of_S2 (v : ref05_Of_Y2) : St := ⟨[(2, .ptr 0 0), (3, .ptr 1 0), (6, .int .i64 v.1), (11, .bool v.2.1)], [.cells [.fz Riii v.2.2.1], .cells [.int .i64 v.2.2.2.1, .int .i64 v.2.2.2.2]]⟩
def ref05_Of_r2 (C : ref05_Of_C) (v : ref05_Of_Y1) : Dt ref05_Of_Y2 := (Dt.ret (v.1, (v.1 != (0:Int)), v.2.1, v.2.2.1, v.2.2.2))
theorem ref05_Of_g2 (C : ref05_Of_C) (v : ref05_Of_Y1) : treg tysT (orc (ref05_Of_tab C)) 20 (regO (bodyOf f15) 2) false [(2, (.box [.val Riii])), (3, .any), (6, .any), (11, .any)] (ref05_Of_S1 v) some = (ref05_Of_r2 C v).eval fun y => some (ref05_Of_S2 y) := by kernel_rfl
abbrev ref05_Of_Y3 : Type := Int × List Diii
def ref05_Of_S3 (v : ref05_Of_Y3) : St := ⟨[(4, .rs 0), (5, .int .i64 v.1)], [.rows Riii v.2]⟩
def ref05_Of_r3 (C : ref05_Of_C) (v : ref05_Of_Y2) : Dt ref05_Of_Y3 := (Dt.ret (v.1, ([] : List Diii)))
theorem ref05_Of_g3 (C : ref05_Of_C) (v : ref05_Of_Y2) : treg tysT (orc (ref05_Of_tab C)) 20 (regO (bodyOf f15) 3) false [(4, (.own Riii)), (5, .any)] (ref05_Of_S2 v) some = (ref05_Of_r3 C v).eval fun y => some (ref05_Of_S3 y) := by kernel_rfl
abbrev ref05_Of_Y4 : Type := Bool × List Diii × Int × Int
def ref05_Of_S4 (v : ref05_Of_Y4) : St := ⟨[(2, .ptr 0 0), (3, .ptr 1 0), (16, .bool v.1)], [.cells [.fz Riii v.2.1], .cells [.int .i64 v.2.2.1, .int .i64 v.2.2.2]]⟩
def ref05_Of_r4 (C : ref05_Of_C) (v : ref05_Of_Y2) : Dt ref05_Of_Y4 := (Dt.ret (((List.length v.2.2.1 : Int) == (0:Int)), v.2.2.1, v.2.2.2.1, v.2.2.2.2))
theorem ref05_Of_g4 (C : ref05_Of_C) (v : ref05_Of_Y2) : treg tysT (orc (ref05_Of_tab C)) 20 (regO (bodyOf f15) 4) false [(2, (.box [.val Riii])), (3, .any), (16, .any)] (ref05_Of_S2 v) some = (ref05_Of_r4 C v).eval fun y => some (ref05_Of_S4 y) := by kernel_rfl
def ref05_Of_r5 (C : ref05_Of_C) (v : ref05_Of_Y4) : Dt ref05_Of_Y3 := (Dt.ret ((42:Int), ([] : List Diii)))
theorem ref05_Of_g5 (C : ref05_Of_C) (v : ref05_Of_Y4) : treg tysT (orc (ref05_Of_tab C)) 20 (regO (bodyOf f15) 5) false [(4, (.own Riii)), (5, .any)] (ref05_Of_S4 v) some = (ref05_Of_r5 C v).eval fun y => some (ref05_Of_S3 y) := by kernel_rfl
def ref05_Of_r6 (C : ref05_Of_C) (v : ref05_Of_Y4) : Dt ref05_Of_Y3 := (Dt.bnd (C.2.1 ((v.2.1, ()), (v.2.2.1, v.2.2.2, ()), ())) fun r1 => (Dt.ret ((0:Int), r1)))
theorem ref05_Of_g6 (C : ref05_Of_C) (v : ref05_Of_Y4) : treg tysT (orc (ref05_Of_tab C)) 20 (regO (bodyOf f15) 6) false [(4, (.own Riii)), (5, .any)] (ref05_Of_S4 v) some = (ref05_Of_r6 C v).eval fun y => some (ref05_Of_S3 y) := by kernel_rfl
def F_ref05_Of (d : Nat) (x : ref05_Of_X) : Option ref05_Of_R :=
  (ref05_Of_r0 (ref05_Of_K d) (x.1.1, x.2.1.1, x.2.1.2.1)).eval fun y0 =>
  (ref05_Of_r1 (ref05_Of_K d) y0).eval fun y1 =>
  (ref05_Of_r2 (ref05_Of_K d) y1).eval fun y2 =>
  bif y2.2.1 then ((ref05_Of_r3 (ref05_Of_K d) y2).eval fun y3 =>
  some (y3.2, y3.1)) else ((ref05_Of_r4 (ref05_Of_K d) y2).eval fun y4 =>
  bif y4.1 then ((ref05_Of_r5 (ref05_Of_K d) y4).eval fun y5 =>
  some (y5.2, y5.1)) else ((ref05_Of_r6 (ref05_Of_K d) y4).eval fun y6 =>
  some (y6.2, y6.1)))
theorem ref05_Of_cok (d : Nat) : COK prog (ref05_Of_sp (F_ref05_Of d)) := by
  have hm : prog.follows .mixedOrders = true := mixed
  have hT := tys
  have hC0 : OrcOK prog (orc (ref05_Of_tab (ref05_Of_K d))) := orc_ok (by
    intro S hS
    simp only [ref05_Of_tab, List.mem_cons, List.not_mem_nil, or_false] at hS
    rcases hS with rfl | rfl
    · exact ref03_Timed_cok d
    · exact ref05_Crest_cok d)
  have hC : OrcOK prog (orc (ref05_Of_tab (ref05_Of_K d))) := hC0
  refine cok_of (c := bodyOf f15) (fn := f15) hT (by kernel_rfl) (by kernel_rfl) (by decide) fun x r h w0 φ0 Q hend => ?_
  replace h : F_ref05_Of d x = some r := h
  unfold F_ref05_Of at h
  show Run prog w0 φ0 20 (bodyOf f15) ⟨[(0, .agg [.fz Riii x.1.1]), (1, .agg [.int .i64 x.2.1.1, .int .i64 x.2.1.2.1])], []⟩ Q
  refine run_seq ?_
  refine run_reg hm hT hC (ref05_Of_g0 (ref05_Of_K d) (x.1.1, x.2.1.1, x.2.1.2.1)) h ?_
  intro y0 h
  refine cn_then ?_
  refine run_seq ?_
  refine run_seq ?_
  refine run_reg hm hT hC (ref05_Of_g1 (ref05_Of_K d) y0) h ?_
  intro y1 h
  refine cn_then ?_
  refine run_seq ?_
  refine run_reg hm hT hC (ref05_Of_g2 (ref05_Of_K d) y1) h ?_
  intro y2 h
  refine cn_then ?_
  refine run_cond (v := y2.2.1) (by kernel_rfl) h ?_ ?_
  ·
    intro h
    refine run_seq ?_
    refine run_reg hm hT hC (ref05_Of_g3 (ref05_Of_K d) y2) h ?_
    intro y3 h
    refine cn_then ?_
    refine run_ret ?_
    refine cn_then_ret ?_
    cases h
    exact (hend _ (by kernel_rfl)).2
  ·
    intro h
    refine run_skip ?_
    refine cn_then ?_
    refine run_seq ?_
    refine run_seq ?_
    refine run_reg hm hT hC (ref05_Of_g4 (ref05_Of_K d) y2) h ?_
    intro y4 h
    refine cn_then ?_
    refine run_cond (v := y4.1) (by kernel_rfl) h ?_ ?_
    ·
      intro h
      refine run_seq ?_
      refine run_reg hm hT hC (ref05_Of_g5 (ref05_Of_K d) y4) h ?_
      intro y5 h
      refine cn_then ?_
      refine run_ret ?_
      refine cn_then_ret ?_
      cases h
      exact (hend _ (by kernel_rfl)).2
    ·
      intro h
      refine run_skip ?_
      refine cn_then ?_
      refine run_seq ?_
      refine run_reg hm hT hC (ref05_Of_g6 (ref05_Of_K d) y4) h ?_
      intro y6 h
      refine cn_then ?_
      refine run_ret ?_
      cases h
      exact (hend _ (by kernel_rfl)).2
abbrev ref05_Check_ps : List Pk := [.row RLiiiE false]
abbrev ref05_Check_X : Type := DLiiiE × Unit
abbrev ref05_Check_R : Type := Int
def ref05_Check_enc (r : ref05_Check_R) : LV × List Ob := (.int .i64 r, [])
def ref05_Check_sp (F : ref05_Check_X → Option ref05_Check_R) : Go.Tx.Spec := ⟨20, ref05_Check_ps, ref05_Check_R, F, ref05_Check_enc⟩
abbrev ref05_Check_C : Type := (ref01_Compare_X → Option ref01_Compare_R) × (ref01_Check_X → Option ref01_Check_R) × Unit
def ref05_Check_K (d : Nat) : ref05_Check_C := (F_ref01_Compare d, F_ref01_Check d, ())
def ref05_Check_tab (C : ref05_Check_C) : List Go.Tx.Spec := [ref01_Compare_sp C.1, ref01_Check_sp C.2.1]
abbrev ref05_Check_Y0i : Type := List Diii
def ref05_Check_S0i (v : ref05_Check_Y0i) : St := ⟨[(0, .fz Riii v)], []⟩
def ref05_Check_r0 (C : ref05_Check_C) (v : ref05_Check_Y0i) : Dt ref05_Check_Y0i := (Dt.ret v)
theorem ref05_Check_g0 (C : ref05_Check_C) (v : ref05_Check_Y0i) : treg tysT (orc (ref05_Check_tab C)) 72 (regO (bodyOf f20) 0) false [(0, (.val Riii))] (ref05_Check_S0i v) some = (ref05_Check_r0 C v).eval fun y => some (ref05_Check_S0i y) := by kernel_rfl
abbrev ref05_Check_Y1 : Type := List Diii × Bool
def ref05_Check_S1 (v : ref05_Check_Y1) : St := ⟨[(0, .fz Riii v.1), (11, .bool v.2)], []⟩
def ref05_Check_r1 (C : ref05_Check_C) (v : ref05_Check_Y0i) : Dt ref05_Check_Y1 := (Dt.ite (decide ((List.length v : Int) < (1:Int))) (Dt.ret (v, true)) (Dt.ret (v, (decide ((List.length v : Int) > (300:Int))))))
theorem ref05_Check_g1 (C : ref05_Check_C) (v : ref05_Check_Y0i) : treg tysT (orc (ref05_Check_tab C)) 72 (regO (bodyOf f20) 1) false [(0, (.val Riii)), (11, .any)] (ref05_Check_S0i v) some = (ref05_Check_r1 C v).eval fun y => some (ref05_Check_S1 y) := by kernel_rfl
abbrev ref05_Check_Y2 : Type := Int
def ref05_Check_S2 (v : ref05_Check_Y2) : St := ⟨[(2, .int .i64 v)], []⟩
def ref05_Check_r2 (C : ref05_Check_C) (v : ref05_Check_Y1) : Dt ref05_Check_Y2 := (Dt.ret (8:Int))
theorem ref05_Check_g2 (C : ref05_Check_C) (v : ref05_Check_Y1) : treg tysT (orc (ref05_Check_tab C)) 72 (regO (bodyOf f20) 2) false [(2, .any)] (ref05_Check_S1 v) some = (ref05_Check_r2 C v).eval fun y => some (ref05_Check_S2 y) := by kernel_rfl
abbrev ref05_Check_Y3 : Type := List Diii × Int
def ref05_Check_S3 (v : ref05_Check_Y3) : St := ⟨[(0, .fz Riii v.1), (3, .int .i64 v.2)], []⟩
def ref05_Check_r3 (C : ref05_Check_C) (v : ref05_Check_Y1) : Dt ref05_Check_Y3 := (Dt.ret (v.1, (0:Int)))
theorem ref05_Check_g3 (C : ref05_Check_C) (v : ref05_Check_Y1) : treg tysT (orc (ref05_Check_tab C)) 72 (regO (bodyOf f20) 3) false [(0, (.val Riii)), (3, .any)] (ref05_Check_S1 v) some = (ref05_Check_r3 C v).eval fun y => some (ref05_Check_S3 y) := by kernel_rfl
abbrev ref05_Check_Y4 : Type := List Diii × Int × Bool
def ref05_Check_S4 (v : ref05_Check_Y4) : St := ⟨[(0, .fz Riii v.1), (3, .int .i64 v.2.1), (15, .bool v.2.2)], []⟩
def ref05_Check_r4 (C : ref05_Check_C) (v : ref05_Check_Y3) : Dt ref05_Check_Y4 := (Dt.ret (v.1, v.2, (decide (v.2 < (List.length v.1 : Int)))))
theorem ref05_Check_g4 (C : ref05_Check_C) (v : ref05_Check_Y3) : treg tysT (orc (ref05_Check_tab C)) 72 (regO (bodyOf f20) 4) false [(0, (.val Riii)), (3, .any), (15, .any)] (ref05_Check_S3 v) some = (ref05_Check_r4 C v).eval fun y => some (ref05_Check_S4 y) := by kernel_rfl
abbrev ref05_Check_Y6 : Type := List Diii × Int × Bool
def ref05_Check_S6 (v : ref05_Check_Y6) : St := ⟨[(0, .fz Riii v.1), (3, .int .i64 v.2.1), (40, .bool v.2.2)], []⟩
def ref05_Check_r6 (C : ref05_Check_C) (v : ref05_Check_Y4) : Dt ref05_Check_Y6 := (Dt.ite (inB v.2.1 (List.length v.1)) (Dt.bnd (C.2.1 (((elt ziii v.1 (v.2.1).toNat).1, (elt ziii v.1 (v.2.1).toNat).2.1, ()), ())) fun r1 => (Dt.ite (r1 != (0:Int)) (Dt.ret (v.1, v.2.1, true)) (Dt.ite (inB v.2.1 (List.length v.1)) (Dt.ite (decide ((elt ziii v.1 (v.2.1).toNat).2.2.1 < (0:Int))) (Dt.ret (v.1, v.2.1, true)) (Dt.ite (inB v.2.1 (List.length v.1)) (Dt.ret (v.1, v.2.1, (decide ((elt ziii v.1 (v.2.1).toNat).2.2.1 > (65535:Int))))) Dt.fail)) Dt.fail))) Dt.fail)
theorem ref05_Check_g6 (C : ref05_Check_C) (v : ref05_Check_Y4) : treg tysT (orc (ref05_Check_tab C)) 72 (regO (bodyOf f20) 6) false [(0, (.val Riii)), (3, .any), (40, .any)] (ref05_Check_S4 v) some = (ref05_Check_r6 C v).eval fun y => some (ref05_Check_S6 y) := by kernel_rfl
def ref05_Check_r7 (C : ref05_Check_C) (v : ref05_Check_Y6) : Dt ref05_Check_Y2 := (Dt.ret (8:Int))
theorem ref05_Check_g7 (C : ref05_Check_C) (v : ref05_Check_Y6) : treg tysT (orc (ref05_Check_tab C)) 72 (regO (bodyOf f20) 7) false [(2, .any)] (ref05_Check_S6 v) some = (ref05_Check_r7 C v).eval fun y => some (ref05_Check_S2 y) := by kernel_rfl
abbrev ref05_Check_Y8 : Type := List Diii × Int × Bool
def ref05_Check_S8 (v : ref05_Check_Y8) : St := ⟨[(0, .fz Riii v.1), (3, .int .i64 v.2.1), (71, .bool v.2.2)], []⟩
def ref05_Check_r8 (C : ref05_Check_C) (v : ref05_Check_Y6) : Dt ref05_Check_Y8 := (Dt.ite (decide (v.2.1 > (0:Int))) (Dt.ite (inB (IntKind.wrap .i64 (v.2.1 - (1:Int))) (List.length v.1)) (Dt.ite (inB v.2.1 (List.length v.1)) (Dt.bnd (C.1 (((elt ziii v.1 ((IntKind.wrap .i64 (v.2.1 - (1:Int)))).toNat).1, (elt ziii v.1 ((IntKind.wrap .i64 (v.2.1 - (1:Int)))).toNat).2.1, ()), ((elt ziii v.1 (v.2.1).toNat).1, (elt ziii v.1 (v.2.1).toNat).2.1, ()), ())) fun r1 => (Dt.ite (decide (r1 ≥ (0:Int))) (Dt.ret (v.1, v.2.1, true)) (Dt.ite (inB (IntKind.wrap .i64 (v.2.1 - (1:Int))) (List.length v.1)) (Dt.ite (inB v.2.1 (List.length v.1)) (Dt.ret (v.1, v.2.1, ((elt ziii v.1 ((IntKind.wrap .i64 (v.2.1 - (1:Int)))).toNat).2.2.1 == (elt ziii v.1 (v.2.1).toNat).2.2.1))) Dt.fail) Dt.fail))) Dt.fail) Dt.fail) (Dt.ret (v.1, v.2.1, false)))
theorem ref05_Check_g8 (C : ref05_Check_C) (v : ref05_Check_Y6) : treg tysT (orc (ref05_Check_tab C)) 72 (regO (bodyOf f20) 8) true [(0, (.val Riii)), (3, .any), (71, .any)] (ref05_Check_S6 v) some = (ref05_Check_r8 C v).eval fun y => some (ref05_Check_S8 y) := by kernel_rfl
def ref05_Check_r9 (C : ref05_Check_C) (v : ref05_Check_Y8) : Dt ref05_Check_Y2 := (Dt.ret (8:Int))
theorem ref05_Check_g9 (C : ref05_Check_C) (v : ref05_Check_Y8) : treg tysT (orc (ref05_Check_tab C)) 72 (regO (bodyOf f20) 9) false [(2, .any)] (ref05_Check_S8 v) some = (ref05_Check_r9 C v).eval fun y => some (ref05_Check_S2 y) := by kernel_rfl
def ref05_Check_r5 (C : ref05_Check_C) (v : ref05_Check_Y8) : Dt ref05_Check_Y3 := (Dt.ret (v.1, (IntKind.wrap .i64 (v.2.1 + (1:Int)))))
theorem ref05_Check_g5 (C : ref05_Check_C) (v : ref05_Check_Y8) : treg tysT (orc (ref05_Check_tab C)) 72 (regO (bodyOf f20) 5) false [(0, (.val Riii)), (3, .any)] (ref05_Check_S8 v) some = (ref05_Check_r5 C v).eval fun y => some (ref05_Check_S3 y) := by kernel_rfl
def ref05_Check_r10 (C : ref05_Check_C) (v : ref05_Check_Y4) : Dt ref05_Check_Y2 := (Dt.ret (0:Int))
theorem ref05_Check_g10 (C : ref05_Check_C) (v : ref05_Check_Y4) : treg tysT (orc (ref05_Check_tab C)) 72 (regO (bodyOf f20) 10) false [(2, .any)] (ref05_Check_S4 v) some = (ref05_Check_r10 C v).eval fun y => some (ref05_Check_S2 y) := by kernel_rfl
def ref05_Check_L1 (d : Nat) (self1 : (List Diii × Int) → Option ref05_Check_R) (x1 : List Diii × Int) : Option ref05_Check_R :=
  (ref05_Check_r4 (ref05_Check_K d) x1).eval fun y4 =>
  bif y4.2.2 then ((ref05_Check_r6 (ref05_Check_K d) y4).eval fun y6 =>
  bif y6.2.2 then ((ref05_Check_r7 (ref05_Check_K d) y6).eval fun y7 =>
  some y7) else ((ref05_Check_r8 (ref05_Check_K d) y6).eval fun y8 =>
  bif y8.2.2 then ((ref05_Check_r9 (ref05_Check_K d) y8).eval fun y9 =>
  some y9) else ((ref05_Check_r5 (ref05_Check_K d) y8).eval fun y5 =>
  self1 y5))) else ((ref05_Check_r10 (ref05_Check_K d) y4).eval fun y10 =>
  some y10)
def F_ref05_Check (d : Nat) (x : ref05_Check_X) : Option ref05_Check_R :=
  (ref05_Check_r0 (ref05_Check_K d) x.1.1).eval fun y0 =>
  (ref05_Check_r1 (ref05_Check_K d) y0).eval fun y1 =>
  bif y1.2 then ((ref05_Check_r2 (ref05_Check_K d) y1).eval fun y2 =>
  some y2) else ((ref05_Check_r3 (ref05_Check_K d) y1).eval fun y3 =>
  iter (ref05_Check_L1 d ) d y3)
theorem ref05_Check_cok (d : Nat) : COK prog (ref05_Check_sp (F_ref05_Check d)) := by
  have hm : prog.follows .mixedOrders = true := mixed
  have hT := tys
  have hC0 : OrcOK prog (orc (ref05_Check_tab (ref05_Check_K d))) := orc_ok (by
    intro S hS
    simp only [ref05_Check_tab, List.mem_cons, List.not_mem_nil, or_false] at hS
    rcases hS with rfl | rfl
    · exact ref01_Compare_cok d
    · exact ref01_Check_cok d)
  have hC : OrcOK prog (orc (ref05_Check_tab (ref05_Check_K d))) := hC0
  refine cok_of (c := bodyOf f20) (fn := f20) hT (by kernel_rfl) (by kernel_rfl) (by decide) fun x r h w0 φ0 Q hend => ?_
  replace h : F_ref05_Check d x = some r := h
  unfold F_ref05_Check at h
  show Run prog w0 φ0 72 (bodyOf f20) ⟨[(0, .fz Riii x.1.1)], []⟩ Q
  refine run_seq ?_
  refine run_reg hm hT hC (ref05_Check_g0 (ref05_Check_K d) x.1.1) h ?_
  intro y0 h
  refine cn_then ?_
  refine run_seq ?_
  refine run_seq ?_
  refine run_reg hm hT hC (ref05_Check_g1 (ref05_Check_K d) y0) h ?_
  intro y1 h
  refine cn_then ?_
  refine run_cond (v := y1.2) (by kernel_rfl) h ?_ ?_
  ·
    intro h
    refine run_seq ?_
    refine run_reg hm hT hC (ref05_Check_g2 (ref05_Check_K d) y1) h ?_
    intro y2 h
    refine cn_then ?_
    refine run_ret ?_
    refine cn_then_ret ?_
    cases h
    exact (hend _ (by kernel_rfl)).2
  ·
    intro h
    refine run_skip ?_
    refine cn_then ?_
    refine run_seq ?_
    refine run_seq ?_
    refine run_reg hm hT hC (ref05_Check_g3 (ref05_Check_K d) y1) h ?_
    intro y3 h
    refine cn_then ?_
    refine run_block ?_
    refine run_loop (G := iter (ref05_Check_L1 d )) (S := (fun x1 => ⟨[(0, .fz Riii x1.1), (3, .int .i64 x1.2)], []⟩ : List Diii × Int → St)) (fun _ => rfl) ?_ d _ h
    intro n1 x1 h K1 hn1
    replace h : ref05_Check_L1 d  (iter (ref05_Check_L1 d ) n1) x1 = some r := h
    generalize iter (ref05_Check_L1 d ) n1 = self1 at h hn1
    unfold ref05_Check_L1 at h
    refine run_seq ?_
    refine run_seq ?_
    refine run_reg hm hT hC (ref05_Check_g4 (ref05_Check_K d) x1) h ?_
    intro y4 h
    refine cn_then ?_
    refine run_cond (v := y4.2.2) (by kernel_rfl) h ?_ ?_
    ·
      intro h
      refine run_skip ?_
      refine cn_then ?_
      refine run_seq ?_
      refine run_block ?_
      refine run_seq ?_
      refine run_seq ?_
      refine run_reg hm hT hC (ref05_Check_g6 (ref05_Check_K d) y4) h ?_
      intro y6 h
      refine cn_then ?_
      refine run_cond (v := y6.2.2) (by kernel_rfl) h ?_ ?_
      ·
        intro h
        refine run_seq ?_
        refine run_reg hm hT hC (ref05_Check_g7 (ref05_Check_K d) y6) h ?_
        intro y7 h
        refine cn_then ?_
        refine run_ret ?_
        refine cn_then_ret ?_
        refine cn_blk_ret ?_
        refine cn_then_ret ?_
        refine cn_then_ret ?_
        refine cn_blk_ret ?_
        refine cn_then_ret ?_
        cases h
        exact (hend _ (by kernel_rfl)).2
      ·
        intro h
        refine run_skip ?_
        refine cn_then ?_
        refine run_seq ?_
        refine run_reg hm hT hC (ref05_Check_g8 (ref05_Check_K d) y6) h ?_
        intro y8 h
        refine cn_then ?_
        refine run_cond (v := y8.2.2) (by kernel_rfl) h ?_ ?_
        ·
          intro h
          refine run_seq ?_
          refine run_reg hm hT hC (ref05_Check_g9 (ref05_Check_K d) y8) h ?_
          intro y9 h
          refine cn_then ?_
          refine run_ret ?_
          refine cn_blk_ret ?_
          refine cn_then_ret ?_
          refine cn_then_ret ?_
          refine cn_blk_ret ?_
          refine cn_then_ret ?_
          cases h
          exact (hend _ (by kernel_rfl)).2
        ·
          intro h
          refine run_skip ?_
          refine cn_blk ?_
          refine cn_then ?_
          refine run_reg hm hT hC (ref05_Check_g5 (ref05_Check_K d) y8) h ?_
          intro y5 h
          exact hn1 _ h
    ·
      intro h
      refine run_exit ?_
      refine cn_then_exit ?_
      refine cn_then_exit ?_
      refine cn_blk_eq ?_
      refine cn_then ?_
      refine run_seq ?_
      refine run_reg hm hT hC (ref05_Check_g10 (ref05_Check_K d) y4) h ?_
      intro y10 h
      refine cn_then ?_
      refine run_ret ?_
      cases h
      exact (hend _ (by kernel_rfl)).2
abbrev ref05_Place_ps : List Pk := [.row RLiiiE false, .row Rii true]
abbrev ref05_Place_X : Type := DLiiiE × Dii × Unit
abbrev ref05_Place_R : Type := Int
def ref05_Place_enc (r : ref05_Place_R) : LV × List Ob := (.int .i64 r, [])
def ref05_Place_sp (F : ref05_Place_X → Option ref05_Place_R) : Go.Tx.Spec := ⟨25, ref05_Place_ps, ref05_Place_R, F, ref05_Place_enc⟩
abbrev ref05_Place_C : Type := (ref01_Compare_X → Option ref01_Compare_R) × Unit
def ref05_Place_K (d : Nat) : ref05_Place_C := (F_ref01_Compare d, ())
def ref05_Place_tab (C : ref05_Place_C) : List Go.Tx.Spec := [ref01_Compare_sp C.1]
abbrev ref05_Place_Y0i : Type := List Diii × Int × Int
def ref05_Place_S0i (v : ref05_Place_Y0i) : St := ⟨[(0, .fz Riii v.1), (1, .agg [.int .i64 v.2.1, .int .i64 v.2.2])], []⟩
abbrev ref05_Place_Y0 : Type := List Diii × Int × Int
def ref05_Place_S0 (v : ref05_Place_Y0) : St := ⟨[(0, .fz Riii v.1), (3, .ptr 0 0)], [.cells [.int .i64 v.2.1, .int .i64 v.2.2]]⟩
def ref05_Place_r0 (C : ref05_Place_C) (v : ref05_Place_Y0i) : Dt ref05_Place_Y0 := (Dt.ret (v.1, v.2.1, v.2.2))
theorem ref05_Place_g0 (C : ref05_Place_C) (v : ref05_Place_Y0i) : treg tysT (orc (ref05_Place_tab C)) 23 (regO (bodyOf f25) 0) false [(0, (.val Riii)), (3, .any)] (ref05_Place_S0i v) some = (ref05_Place_r0 C v).eval fun y => some (ref05_Place_S0 y) := by kernel_rfl
abbrev ref05_Place_Y1 : Type := List Diii × Int × Int × Int
def ref05_Place_S1 (v : ref05_Place_Y1) : St := ⟨[(0, .fz Riii v.1), (3, .ptr 0 0), (5, .int .i64 v.2.1)], [.cells [.int .i64 v.2.2.1, .int .i64 v.2.2.2]]⟩
def ref05_Place_r1 (C : ref05_Place_C) (v : ref05_Place_Y0) : Dt ref05_Place_Y1 := (Dt.ret (v.1, (0:Int), v.2.1, v.2.2))
theorem ref05_Place_g1 (C : ref05_Place_C) (v : ref05_Place_Y0) : treg tysT (orc (ref05_Place_tab C)) 23 (regO (bodyOf f25) 1) false [(0, (.val Riii)), (3, .any), (5, .any)] (ref05_Place_S0 v) some = (ref05_Place_r1 C v).eval fun y => some (ref05_Place_S1 y) := by kernel_rfl
abbrev ref05_Place_Y2 : Type := List Diii × Int × Int × Int × Int
def ref05_Place_S2 (v : ref05_Place_Y2) : St := ⟨[(0, .fz Riii v.1), (3, .ptr 0 0), (5, .int .i64 v.2.1), (6, .int .i64 v.2.2.1)], [.cells [.int .i64 v.2.2.2.1, .int .i64 v.2.2.2.2]]⟩
def ref05_Place_r2 (C : ref05_Place_C) (v : ref05_Place_Y1) : Dt ref05_Place_Y2 := (Dt.ret (v.1, v.2.1, (0:Int), v.2.2.1, v.2.2.2))
theorem ref05_Place_g2 (C : ref05_Place_C) (v : ref05_Place_Y1) : treg tysT (orc (ref05_Place_tab C)) 23 (regO (bodyOf f25) 2) false [(0, (.val Riii)), (3, .any), (5, .any), (6, .any)] (ref05_Place_S1 v) some = (ref05_Place_r2 C v).eval fun y => some (ref05_Place_S2 y) := by kernel_rfl
abbrev ref05_Place_Y3 : Type := List Diii × Int × Int × Bool × Int × Int
def ref05_Place_S3 (v : ref05_Place_Y3) : St := ⟨[(0, .fz Riii v.1), (3, .ptr 0 0), (5, .int .i64 v.2.1), (6, .int .i64 v.2.2.1), (10, .bool v.2.2.2.1)], [.cells [.int .i64 v.2.2.2.2.1, .int .i64 v.2.2.2.2.2]]⟩
def ref05_Place_r3 (C : ref05_Place_C) (v : ref05_Place_Y2) : Dt ref05_Place_Y3 := (Dt.ret (v.1, v.2.1, v.2.2.1, (decide (v.2.2.1 < (List.length v.1 : Int))), v.2.2.2.1, v.2.2.2.2))
theorem ref05_Place_g3 (C : ref05_Place_C) (v : ref05_Place_Y2) : treg tysT (orc (ref05_Place_tab C)) 23 (regO (bodyOf f25) 3) false [(0, (.val Riii)), (3, .any), (5, .any), (6, .any), (10, .any)] (ref05_Place_S2 v) some = (ref05_Place_r3 C v).eval fun y => some (ref05_Place_S3 y) := by kernel_rfl
abbrev ref05_Place_Y5 : Type := List Diii × Int × Int × Bool × Int × Int
def ref05_Place_S5 (v : ref05_Place_Y5) : St := ⟨[(0, .fz Riii v.1), (3, .ptr 0 0), (5, .int .i64 v.2.1), (6, .int .i64 v.2.2.1), (20, .bool v.2.2.2.1)], [.cells [.int .i64 v.2.2.2.2.1, .int .i64 v.2.2.2.2.2]]⟩
def ref05_Place_r5 (C : ref05_Place_C) (v : ref05_Place_Y3) : Dt ref05_Place_Y5 := (Dt.ite (inB v.2.2.1 (List.length v.1)) (Dt.bnd (C.1 (((elt ziii v.1 (v.2.2.1).toNat).1, (elt ziii v.1 (v.2.2.1).toNat).2.1, ()), (v.2.2.2.2.1, v.2.2.2.2.2, ()), ())) fun r1 => (Dt.ret (v.1, v.2.1, v.2.2.1, (decide (r1 ≤ (0:Int))), v.2.2.2.2.1, v.2.2.2.2.2))) Dt.fail)
theorem ref05_Place_g5 (C : ref05_Place_C) (v : ref05_Place_Y3) : treg tysT (orc (ref05_Place_tab C)) 23 (regO (bodyOf f25) 5) true [(0, (.val Riii)), (3, .any), (5, .any), (6, .any), (20, .any)] (ref05_Place_S3 v) some = (ref05_Place_r5 C v).eval fun y => some (ref05_Place_S5 y) := by kernel_rfl
def ref05_Place_r6 (C : ref05_Place_C) (v : ref05_Place_Y5) : Dt ref05_Place_Y2 := (Dt.ret (v.1, v.2.2.1, v.2.2.1, v.2.2.2.2.1, v.2.2.2.2.2))
theorem ref05_Place_g6 (C : ref05_Place_C) (v : ref05_Place_Y5) : treg tysT (orc (ref05_Place_tab C)) 23 (regO (bodyOf f25) 6) false [(0, (.val Riii)), (3, .any), (5, .any), (6, .any)] (ref05_Place_S5 v) some = (ref05_Place_r6 C v).eval fun y => some (ref05_Place_S2 y) := by kernel_rfl
def ref05_Place_r4 (C : ref05_Place_C) (v : ref05_Place_Y2) : Dt ref05_Place_Y2 := (Dt.ret (v.1, v.2.1, (IntKind.wrap .i64 (v.2.2.1 + (1:Int))), v.2.2.2.1, v.2.2.2.2))
theorem ref05_Place_g4 (C : ref05_Place_C) (v : ref05_Place_Y2) : treg tysT (orc (ref05_Place_tab C)) 23 (regO (bodyOf f25) 4) false [(0, (.val Riii)), (3, .any), (5, .any), (6, .any)] (ref05_Place_S2 v) some = (ref05_Place_r4 C v).eval fun y => some (ref05_Place_S2 y) := by kernel_rfl
def ref05_Place_J2  (d : Nat) (self1 : (List Diii × Int × Int × Int × Int) → Option ref05_Place_R) (z : List Diii × Int × Int × Int × Int) : Option (ref05_Place_R) :=
  (ref05_Place_r4 (ref05_Place_K d) z).eval fun y4 =>
  self1 y4
abbrev ref05_Place_Y7 : Type := Int
def ref05_Place_S7 (v : ref05_Place_Y7) : St := ⟨[(4, .int .i64 v)], []⟩
def ref05_Place_r7 (C : ref05_Place_C) (v : ref05_Place_Y3) : Dt ref05_Place_Y7 := (Dt.ret v.2.1)
theorem ref05_Place_g7 (C : ref05_Place_C) (v : ref05_Place_Y3) : treg tysT (orc (ref05_Place_tab C)) 23 (regO (bodyOf f25) 7) false [(4, .any)] (ref05_Place_S3 v) some = (ref05_Place_r7 C v).eval fun y => some (ref05_Place_S7 y) := by kernel_rfl
def ref05_Place_L1 (d : Nat) (self1 : (List Diii × Int × Int × Int × Int) → Option ref05_Place_R) (x1 : List Diii × Int × Int × Int × Int) : Option ref05_Place_R :=
  (ref05_Place_r3 (ref05_Place_K d) x1).eval fun y3 =>
  bif y3.2.2.2.1 then ((ref05_Place_r5 (ref05_Place_K d) y3).eval fun y5 =>
  bif y5.2.2.2.1 then ((ref05_Place_r6 (ref05_Place_K d) y5).eval fun y6 =>
  ref05_Place_J2 d self1 y6) else (ref05_Place_J2 d self1 (y5.1, y5.2.1, y5.2.2.1, y5.2.2.2.2.1, y5.2.2.2.2.2))) else ((ref05_Place_r7 (ref05_Place_K d) y3).eval fun y7 =>
  some y7)
def F_ref05_Place (d : Nat) (x : ref05_Place_X) : Option ref05_Place_R :=
  (ref05_Place_r0 (ref05_Place_K d) (x.1.1, x.2.1.1, x.2.1.2.1)).eval fun y0 =>
  (ref05_Place_r1 (ref05_Place_K d) y0).eval fun y1 =>
  (ref05_Place_r2 (ref05_Place_K d) y1).eval fun y2 =>
  iter (ref05_Place_L1 d ) d y2
theorem ref05_Place_cok (d : Nat) : COK prog (ref05_Place_sp (F_ref05_Place d)) := by
  have hm : prog.follows .mixedOrders = true := mixed
  have hT := tys
  have hC0 : OrcOK prog (orc (ref05_Place_tab (ref05_Place_K d))) := orc_ok (by
    intro S hS
    simp only [ref05_Place_tab, List.mem_cons, List.not_mem_nil, or_false] at hS
    subst hS; exact ref01_Compare_cok d)
  have hC : OrcOK prog (orc (ref05_Place_tab (ref05_Place_K d))) := hC0
  refine cok_of (c := bodyOf f25) (fn := f25) hT (by kernel_rfl) (by kernel_rfl) (by decide) fun x r h w0 φ0 Q hend => ?_
  replace h : F_ref05_Place d x = some r := h
  unfold F_ref05_Place at h
  show Run prog w0 φ0 23 (bodyOf f25) ⟨[(0, .fz Riii x.1.1), (1, .agg [.int .i64 x.2.1.1, .int .i64 x.2.1.2.1])], []⟩ Q
  refine run_seq ?_
  refine run_reg hm hT hC (ref05_Place_g0 (ref05_Place_K d) (x.1.1, x.2.1.1, x.2.1.2.1)) h ?_
  intro y0 h
  refine cn_then ?_
  refine run_seq ?_
  refine run_reg hm hT hC (ref05_Place_g1 (ref05_Place_K d) y0) h ?_
  intro y1 h
  refine cn_then ?_
  refine run_seq ?_
  refine run_seq ?_
  refine run_reg hm hT hC (ref05_Place_g2 (ref05_Place_K d) y1) h ?_
  intro y2 h
  refine cn_then ?_
  refine run_block ?_
  refine run_loop (G := iter (ref05_Place_L1 d )) (S := (fun x1 => ⟨[(0, .fz Riii x1.1), (3, .ptr 0 0), (5, .int .i64 x1.2.1), (6, .int .i64 x1.2.2.1)], [.cells [.int .i64 x1.2.2.2.1, .int .i64 x1.2.2.2.2]]⟩ : List Diii × Int × Int × Int × Int → St)) (fun _ => rfl) ?_ d _ h
  intro n1 x1 h K1 hn1
  replace h : ref05_Place_L1 d  (iter (ref05_Place_L1 d ) n1) x1 = some r := h
  generalize iter (ref05_Place_L1 d ) n1 = self1 at h hn1
  unfold ref05_Place_L1 at h
  refine run_seq ?_
  refine run_seq ?_
  refine run_reg hm hT hC (ref05_Place_g3 (ref05_Place_K d) x1) h ?_
  intro y3 h
  refine cn_then ?_
  refine run_cond (v := y3.2.2.2.1) (by kernel_rfl) h ?_ ?_
  ·
    intro h
    refine run_skip ?_
    refine cn_then ?_
    refine run_join (r := r) (F := ref05_Place_J2 d self1) (S := (fun z => ⟨[(0, .fz Riii z.1), (3, .ptr 0 0), (5, .int .i64 z.2.1), (6, .int .i64 z.2.2.1)], [.cells [.int .i64 z.2.2.2.1, .int .i64 z.2.2.2.2]]⟩ : List Diii × Int × Int × Int × Int → St)) ?_ ?_
    ·
      intro z h
      unfold ref05_Place_J2 at h
      refine run_reg hm hT hC (ref05_Place_g4 (ref05_Place_K d) z) h ?_
      intro y4 h
      exact hn1 _ h
    intro hj2
    refine run_block ?_
    refine run_seq ?_
    refine run_reg hm hT hC (ref05_Place_g5 (ref05_Place_K d) y3) h ?_
    intro y5 h
    refine cn_then ?_
    refine run_cond (v := y5.2.2.2.1) (by kernel_rfl) h ?_ ?_
    ·
      intro h
      refine run_reg hm hT hC (ref05_Place_g6 (ref05_Place_K d) y5) h ?_
      intro y6 h
      refine cn_blk ?_
      exact hj2 _ h
    ·
      intro h
      refine run_skip ?_
      refine cn_blk ?_
      refine cn_num (s := ⟨[(0, .fz Riii y5.1), (3, .ptr 0 0), (5, .int .i64 y5.2.1), (6, .int .i64 y5.2.2.1)], [.cells [.int .i64 y5.2.2.2.2.1, .int .i64 y5.2.2.2.2.2]]⟩) [20] (by kernel_rfl) ?_
      exact hj2 _ h
  ·
    intro h
    refine run_exit ?_
    refine cn_then_exit ?_
    refine cn_then_exit ?_
    refine cn_blk_eq ?_
    refine cn_then ?_
    refine run_seq ?_
    refine run_reg hm hT hC (ref05_Place_g7 (ref05_Place_K d) y3) h ?_
    intro y7 h
    refine cn_then ?_
    refine run_ret ?_
    cases h
    exact (hend _ (by kernel_rfl)).2
abbrev ref05_At_ps : List Pk := [.row RLiiiE false, .row Rii true]
abbrev ref05_At_X : Type := DLiiiE × Dii × Unit
abbrev ref05_At_R : Type := Int × Int
def ref05_At_enc (r : ref05_At_R) : LV × List Ob := (.tup [.int .i64 r.1, .int .i64 r.2], [])
def ref05_At_sp (F : ref05_At_X → Option ref05_At_R) : Go.Tx.Spec := ⟨17, ref05_At_ps, ref05_At_R, F, ref05_At_enc⟩
abbrev ref05_At_C : Type := (ref05_Check_X → Option ref05_Check_R) × (ref01_Compare_X → Option ref01_Compare_R) × (ref05_Place_X → Option ref05_Place_R) × (ref01_Check_X → Option ref01_Check_R) × Unit
def ref05_At_K (d : Nat) : ref05_At_C := (F_ref05_Check d, F_ref01_Compare d, F_ref05_Place d, F_ref01_Check d, ())
def ref05_At_tab (C : ref05_At_C) : List Go.Tx.Spec := [ref05_Check_sp C.1, ref01_Compare_sp C.2.1, ref05_Place_sp C.2.2.1, ref01_Check_sp C.2.2.2.1]
abbrev ref05_At_Y0i : Type := List Diii × Int × Int
def ref05_At_S0i (v : ref05_At_Y0i) : St := ⟨[(0, .fz Riii v.1), (1, .agg [.int .i64 v.2.1, .int .i64 v.2.2])], []⟩
abbrev ref05_At_Y0 : Type := List Diii × Int × Int
def ref05_At_S0 (v : ref05_At_Y0) : St := ⟨[(0, .fz Riii v.1), (3, .ptr 0 0)], [.cells [.int .i64 v.2.1, .int .i64 v.2.2]]⟩
def ref05_At_r0 (C : ref05_At_C) (v : ref05_At_Y0i) : Dt ref05_At_Y0 := (Dt.ret (v.1, v.2.1, v.2.2))
theorem ref05_At_g0 (C : ref05_At_C) (v : ref05_At_Y0i) : treg tysT (orc (ref05_At_tab C)) 28 (regO (bodyOf f17) 0) false [(0, (.val Riii)), (3, .any)] (ref05_At_S0i v) some = (ref05_At_r0 C v).eval fun y => some (ref05_At_S0 y) := by kernel_rfl
abbrev ref05_At_Y1 : Type := List Diii × Bool × Int × Int
def ref05_At_S1 (v : ref05_At_Y1) : St := ⟨[(0, .fz Riii v.1), (3, .ptr 0 0), (13, .bool v.2.1)], [.cells [.int .i64 v.2.2.1, .int .i64 v.2.2.2]]⟩
def ref05_At_r1 (C : ref05_At_C) (v : ref05_At_Y0) : Dt ref05_At_Y1 := (Dt.bnd (C.1 ((v.1, ()), ())) fun r1 => (Dt.ite (r1 != (0:Int)) (Dt.ret (v.1, true, v.2.1, v.2.2)) (Dt.bnd (C.2.2.2.1 ((v.2.1, v.2.2, ()), ())) fun r2 => (Dt.ret (v.1, (r2 != (0:Int)), v.2.1, v.2.2)))))
theorem ref05_At_g1 (C : ref05_At_C) (v : ref05_At_Y0) : treg tysT (orc (ref05_At_tab C)) 28 (regO (bodyOf f17) 1) false [(0, (.val Riii)), (3, .any), (13, .any)] (ref05_At_S0 v) some = (ref05_At_r1 C v).eval fun y => some (ref05_At_S1 y) := by kernel_rfl
abbrev ref05_At_Y2 : Type := Int × Int
def ref05_At_S2 (v : ref05_At_Y2) : St := ⟨[(4, .int .i64 v.1), (5, .int .i64 v.2)], []⟩
def ref05_At_r2 (C : ref05_At_C) (v : ref05_At_Y1) : Dt ref05_At_Y2 := (Dt.ret ((0:Int), (8:Int)))
theorem ref05_At_g2 (C : ref05_At_C) (v : ref05_At_Y1) : treg tysT (orc (ref05_At_tab C)) 28 (regO (bodyOf f17) 2) false [(4, .any), (5, .any)] (ref05_At_S1 v) some = (ref05_At_r2 C v).eval fun y => some (ref05_At_S2 y) := by kernel_rfl
abbrev ref05_At_Y3 : Type := List Diii × Bool × Int × Int
def ref05_At_S3 (v : ref05_At_Y3) : St := ⟨[(0, .fz Riii v.1), (3, .ptr 0 0), (20, .bool v.2.1)], [.cells [.int .i64 v.2.2.1, .int .i64 v.2.2.2]]⟩
def ref05_At_r3 (C : ref05_At_C) (v : ref05_At_Y1) : Dt ref05_At_Y3 := (Dt.ite (inB (0:Int) (List.length v.1)) (Dt.bnd (C.2.1 ((v.2.2.1, v.2.2.2, ()), ((elt ziii v.1 ((0:Int)).toNat).1, (elt ziii v.1 ((0:Int)).toNat).2.1, ()), ())) fun r1 => (Dt.ret (v.1, (decide (r1 < (0:Int))), v.2.2.1, v.2.2.2))) Dt.fail)
theorem ref05_At_g3 (C : ref05_At_C) (v : ref05_At_Y1) : treg tysT (orc (ref05_At_tab C)) 28 (regO (bodyOf f17) 3) true [(0, (.val Riii)), (3, .any), (20, .any)] (ref05_At_S1 v) some = (ref05_At_r3 C v).eval fun y => some (ref05_At_S3 y) := by kernel_rfl
def ref05_At_r4 (C : ref05_At_C) (v : ref05_At_Y3) : Dt ref05_At_Y2 := (Dt.ret ((0:Int), (44:Int)))
theorem ref05_At_g4 (C : ref05_At_C) (v : ref05_At_Y3) : treg tysT (orc (ref05_At_tab C)) 28 (regO (bodyOf f17) 4) false [(4, .any), (5, .any)] (ref05_At_S3 v) some = (ref05_At_r4 C v).eval fun y => some (ref05_At_S2 y) := by kernel_rfl
def ref05_At_r5 (C : ref05_At_C) (v : ref05_At_Y3) : Dt ref05_At_Y2 := (Dt.bnd (C.2.2.1 ((v.1, ()), (v.2.2.1, v.2.2.2, ()), ())) fun r1 => (Dt.ite (inB r1 (List.length v.1)) (Dt.ret ((elt ziii v.1 (r1).toNat).2.2.1, (0:Int))) Dt.fail))
theorem ref05_At_g5 (C : ref05_At_C) (v : ref05_At_Y3) : treg tysT (orc (ref05_At_tab C)) 28 (regO (bodyOf f17) 5) false [(4, .any), (5, .any)] (ref05_At_S3 v) some = (ref05_At_r5 C v).eval fun y => some (ref05_At_S2 y) := by kernel_rfl
def F_ref05_At (d : Nat) (x : ref05_At_X) : Option ref05_At_R :=
  (ref05_At_r0 (ref05_At_K d) (x.1.1, x.2.1.1, x.2.1.2.1)).eval fun y0 =>
  (ref05_At_r1 (ref05_At_K d) y0).eval fun y1 =>
  bif y1.2.1 then ((ref05_At_r2 (ref05_At_K d) y1).eval fun y2 =>
  some y2) else ((ref05_At_r3 (ref05_At_K d) y1).eval fun y3 =>
  bif y3.2.1 then ((ref05_At_r4 (ref05_At_K d) y3).eval fun y4 =>
  some y4) else ((ref05_At_r5 (ref05_At_K d) y3).eval fun y5 =>
  some y5))
theorem ref05_At_cok (d : Nat) : COK prog (ref05_At_sp (F_ref05_At d)) := by
  have hm : prog.follows .mixedOrders = true := mixed
  have hT := tys
  have hC0 : OrcOK prog (orc (ref05_At_tab (ref05_At_K d))) := orc_ok (by
    intro S hS
    simp only [ref05_At_tab, List.mem_cons, List.not_mem_nil, or_false] at hS
    rcases hS with rfl | rfl | rfl | rfl
    · exact ref05_Check_cok d
    · exact ref01_Compare_cok d
    · exact ref05_Place_cok d
    · exact ref01_Check_cok d)
  have hC : OrcOK prog (orc (ref05_At_tab (ref05_At_K d))) := hC0
  refine cok_of (c := bodyOf f17) (fn := f17) hT (by kernel_rfl) (by kernel_rfl) (by decide) fun x r h w0 φ0 Q hend => ?_
  replace h : F_ref05_At d x = some r := h
  unfold F_ref05_At at h
  show Run prog w0 φ0 28 (bodyOf f17) ⟨[(0, .fz Riii x.1.1), (1, .agg [.int .i64 x.2.1.1, .int .i64 x.2.1.2.1])], []⟩ Q
  refine run_seq ?_
  refine run_reg hm hT hC (ref05_At_g0 (ref05_At_K d) (x.1.1, x.2.1.1, x.2.1.2.1)) h ?_
  intro y0 h
  refine cn_then ?_
  refine run_seq ?_
  refine run_seq ?_
  refine run_reg hm hT hC (ref05_At_g1 (ref05_At_K d) y0) h ?_
  intro y1 h
  refine cn_then ?_
  refine run_cond (v := y1.2.1) (by kernel_rfl) h ?_ ?_
  ·
    intro h
    refine run_seq ?_
    refine run_reg hm hT hC (ref05_At_g2 (ref05_At_K d) y1) h ?_
    intro y2 h
    refine cn_then ?_
    refine run_ret ?_
    refine cn_then_ret ?_
    cases h
    exact (hend _ (by kernel_rfl)).2
  ·
    intro h
    refine run_skip ?_
    refine cn_then ?_
    refine run_seq ?_
    refine run_seq ?_
    refine run_reg hm hT hC (ref05_At_g3 (ref05_At_K d) y1) h ?_
    intro y3 h
    refine cn_then ?_
    refine run_cond (v := y3.2.1) (by kernel_rfl) h ?_ ?_
    ·
      intro h
      refine run_seq ?_
      refine run_reg hm hT hC (ref05_At_g4 (ref05_At_K d) y3) h ?_
      intro y4 h
      refine cn_then ?_
      refine run_ret ?_
      refine cn_then_ret ?_
      cases h
      exact (hend _ (by kernel_rfl)).2
    ·
      intro h
      refine run_skip ?_
      refine cn_then ?_
      refine run_seq ?_
      refine run_reg hm hT hC (ref05_At_g5 (ref05_At_K d) y3) h ?_
      intro y5 h
      refine cn_then ?_
      refine run_ret ?_
      cases h
      exact (hend _ (by kernel_rfl)).2
abbrev ref05_Same_ps : List Pk := [.row RLiiiE false, .row RLiiiE false]
abbrev ref05_Same_X : Type := DLiiiE × DLiiiE × Unit
abbrev ref05_Same_R : Type := Bool
def ref05_Same_enc (r : ref05_Same_R) : LV × List Ob := (.bool r, [])
def ref05_Same_sp (F : ref05_Same_X → Option ref05_Same_R) : Go.Tx.Spec := ⟨18, ref05_Same_ps, ref05_Same_R, F, ref05_Same_enc⟩
abbrev ref05_Same_C : Type := Unit
def ref05_Same_K (_d : Nat) : ref05_Same_C := ()
def ref05_Same_tab (C : ref05_Same_C) : List Go.Tx.Spec := []
abbrev ref05_Same_Y0i : Type := List Diii × List Diii
def ref05_Same_S0i (v : ref05_Same_Y0i) : St := ⟨[(0, .fz Riii v.1), (1, .fz Riii v.2)], []⟩
def ref05_Same_r0 (C : ref05_Same_C) (v : ref05_Same_Y0i) : Dt ref05_Same_Y0i := (Dt.ret (v.1, v.2))
theorem ref05_Same_g0 (C : ref05_Same_C) (v : ref05_Same_Y0i) : treg tysT (orc (ref05_Same_tab C)) 26 (regO (bodyOf f18) 0) false [(0, (.val Riii)), (1, (.val Riii))] (ref05_Same_S0i v) some = (ref05_Same_r0 C v).eval fun y => some (ref05_Same_S0i y) := by kernel_rfl
abbrev ref05_Same_Y1 : Type := List Diii × List Diii × Bool
def ref05_Same_S1 (v : ref05_Same_Y1) : St := ⟨[(0, .fz Riii v.1), (1, .fz Riii v.2.1), (10, .bool v.2.2)], []⟩
def ref05_Same_r1 (C : ref05_Same_C) (v : ref05_Same_Y0i) : Dt ref05_Same_Y1 := (Dt.ret (v.1, v.2, ((List.length v.1 : Int) != (List.length v.2 : Int))))
theorem ref05_Same_g1 (C : ref05_Same_C) (v : ref05_Same_Y0i) : treg tysT (orc (ref05_Same_tab C)) 26 (regO (bodyOf f18) 1) false [(0, (.val Riii)), (1, (.val Riii)), (10, .any)] (ref05_Same_S0i v) some = (ref05_Same_r1 C v).eval fun y => some (ref05_Same_S1 y) := by kernel_rfl
abbrev ref05_Same_Y2 : Type := Bool
def ref05_Same_S2 (v : ref05_Same_Y2) : St := ⟨[(4, .bool v)], []⟩
def ref05_Same_r2 (C : ref05_Same_C) (v : ref05_Same_Y1) : Dt ref05_Same_Y2 := (Dt.ret false)
theorem ref05_Same_g2 (C : ref05_Same_C) (v : ref05_Same_Y1) : treg tysT (orc (ref05_Same_tab C)) 26 (regO (bodyOf f18) 2) false [(4, .any)] (ref05_Same_S1 v) some = (ref05_Same_r2 C v).eval fun y => some (ref05_Same_S2 y) := by kernel_rfl
abbrev ref05_Same_Y3 : Type := List Diii × List Diii × Int
def ref05_Same_S3 (v : ref05_Same_Y3) : St := ⟨[(0, .fz Riii v.1), (1, .fz Riii v.2.1), (5, .int .i64 v.2.2)], []⟩
def ref05_Same_r3 (C : ref05_Same_C) (v : ref05_Same_Y1) : Dt ref05_Same_Y3 := (Dt.ret (v.1, v.2.1, (0:Int)))
theorem ref05_Same_g3 (C : ref05_Same_C) (v : ref05_Same_Y1) : treg tysT (orc (ref05_Same_tab C)) 26 (regO (bodyOf f18) 3) false [(0, (.val Riii)), (1, (.val Riii)), (5, .any)] (ref05_Same_S1 v) some = (ref05_Same_r3 C v).eval fun y => some (ref05_Same_S3 y) := by kernel_rfl
abbrev ref05_Same_Y4 : Type := List Diii × List Diii × Int × Bool
def ref05_Same_S4 (v : ref05_Same_Y4) : St := ⟨[(0, .fz Riii v.1), (1, .fz Riii v.2.1), (5, .int .i64 v.2.2.1), (14, .bool v.2.2.2)], []⟩
def ref05_Same_r4 (C : ref05_Same_C) (v : ref05_Same_Y3) : Dt ref05_Same_Y4 := (Dt.ret (v.1, v.2.1, v.2.2, (decide (v.2.2 < (List.length v.1 : Int)))))
theorem ref05_Same_g4 (C : ref05_Same_C) (v : ref05_Same_Y3) : treg tysT (orc (ref05_Same_tab C)) 26 (regO (bodyOf f18) 4) false [(0, (.val Riii)), (1, (.val Riii)), (5, .any), (14, .any)] (ref05_Same_S3 v) some = (ref05_Same_r4 C v).eval fun y => some (ref05_Same_S4 y) := by kernel_rfl
abbrev ref05_Same_Y6 : Type := List Diii × List Diii × Int × Bool
def ref05_Same_S6 (v : ref05_Same_Y6) : St := ⟨[(0, .fz Riii v.1), (1, .fz Riii v.2.1), (5, .int .i64 v.2.2.1), (25, .bool v.2.2.2)], []⟩
def ref05_Same_r6 (C : ref05_Same_C) (v : ref05_Same_Y4) : Dt ref05_Same_Y6 := (Dt.ite (inB v.2.2.1 (List.length v.1)) (Dt.ite (inB v.2.2.1 (List.length v.2.1)) (Dt.ret (v.1, v.2.1, v.2.2.1, (!(((elt ziii v.1 (v.2.2.1).toNat).1 == (elt ziii v.2.1 (v.2.2.1).toNat).1) && (((elt ziii v.1 (v.2.2.1).toNat).2.1 == (elt ziii v.2.1 (v.2.2.1).toNat).2.1) && (((elt ziii v.1 (v.2.2.1).toNat).2.2.1 == (elt ziii v.2.1 (v.2.2.1).toNat).2.2.1) && true)))))) Dt.fail) Dt.fail)
theorem ref05_Same_g6 (C : ref05_Same_C) (v : ref05_Same_Y4) : treg tysT (orc (ref05_Same_tab C)) 26 (regO (bodyOf f18) 6) true [(0, (.val Riii)), (1, (.val Riii)), (5, .any), (25, .any)] (ref05_Same_S4 v) some = (ref05_Same_r6 C v).eval fun y => some (ref05_Same_S6 y) := by kernel_rfl
def ref05_Same_r7 (C : ref05_Same_C) (v : ref05_Same_Y6) : Dt ref05_Same_Y2 := (Dt.ret false)
theorem ref05_Same_g7 (C : ref05_Same_C) (v : ref05_Same_Y6) : treg tysT (orc (ref05_Same_tab C)) 26 (regO (bodyOf f18) 7) false [(4, .any)] (ref05_Same_S6 v) some = (ref05_Same_r7 C v).eval fun y => some (ref05_Same_S2 y) := by kernel_rfl
def ref05_Same_r5 (C : ref05_Same_C) (v : ref05_Same_Y6) : Dt ref05_Same_Y3 := (Dt.ret (v.1, v.2.1, (IntKind.wrap .i64 (v.2.2.1 + (1:Int)))))
theorem ref05_Same_g5 (C : ref05_Same_C) (v : ref05_Same_Y6) : treg tysT (orc (ref05_Same_tab C)) 26 (regO (bodyOf f18) 5) false [(0, (.val Riii)), (1, (.val Riii)), (5, .any)] (ref05_Same_S6 v) some = (ref05_Same_r5 C v).eval fun y => some (ref05_Same_S3 y) := by kernel_rfl
def ref05_Same_r8 (C : ref05_Same_C) (v : ref05_Same_Y4) : Dt ref05_Same_Y2 := (Dt.ret true)
theorem ref05_Same_g8 (C : ref05_Same_C) (v : ref05_Same_Y4) : treg tysT (orc (ref05_Same_tab C)) 26 (regO (bodyOf f18) 8) false [(4, .any)] (ref05_Same_S4 v) some = (ref05_Same_r8 C v).eval fun y => some (ref05_Same_S2 y) := by kernel_rfl
def ref05_Same_L1 (d : Nat) (self1 : (List Diii × List Diii × Int) → Option ref05_Same_R) (x1 : List Diii × List Diii × Int) : Option ref05_Same_R :=
  (ref05_Same_r4 (ref05_Same_K d) x1).eval fun y4 =>
  bif y4.2.2.2 then ((ref05_Same_r6 (ref05_Same_K d) y4).eval fun y6 =>
  bif y6.2.2.2 then ((ref05_Same_r7 (ref05_Same_K d) y6).eval fun y7 =>
  some y7) else ((ref05_Same_r5 (ref05_Same_K d) y6).eval fun y5 =>
  self1 y5)) else ((ref05_Same_r8 (ref05_Same_K d) y4).eval fun y8 =>
  some y8)
def F_ref05_Same (d : Nat) (x : ref05_Same_X) : Option ref05_Same_R :=
  (ref05_Same_r0 (ref05_Same_K d) (x.1.1, x.2.1.1)).eval fun y0 =>
  (ref05_Same_r1 (ref05_Same_K d) y0).eval fun y1 =>
  bif y1.2.2 then ((ref05_Same_r2 (ref05_Same_K d) y1).eval fun y2 =>
  some y2) else ((ref05_Same_r3 (ref05_Same_K d) y1).eval fun y3 =>
  iter (ref05_Same_L1 d ) d y3)
theorem ref05_Same_cok (d : Nat) : COK prog (ref05_Same_sp (F_ref05_Same d)) := by
  have hm : prog.follows .mixedOrders = true := mixed
  have hT := tys
  have hC0 : OrcOK prog (orc (ref05_Same_tab (ref05_Same_K d))) := orc_ok (by
    intro S hS
    simp only [ref05_Same_tab, List.mem_cons, List.not_mem_nil, or_false] at hS
    all_goals first | cases hS | exact hS.elim)
  have hC : OrcOK prog (orc (ref05_Same_tab (ref05_Same_K d))) := hC0
  refine cok_of (c := bodyOf f18) (fn := f18) hT (by kernel_rfl) (by kernel_rfl) (by decide) fun x r h w0 φ0 Q hend => ?_
  replace h : F_ref05_Same d x = some r := h
  unfold F_ref05_Same at h
  show Run prog w0 φ0 26 (bodyOf f18) ⟨[(0, .fz Riii x.1.1), (1, .fz Riii x.2.1.1)], []⟩ Q
  refine run_seq ?_
  refine run_reg hm hT hC (ref05_Same_g0 (ref05_Same_K d) (x.1.1, x.2.1.1)) h ?_
  intro y0 h
  refine cn_then ?_
  refine run_seq ?_
  refine run_seq ?_
  refine run_reg hm hT hC (ref05_Same_g1 (ref05_Same_K d) y0) h ?_
  intro y1 h
  refine cn_then ?_
  refine run_cond (v := y1.2.2) (by kernel_rfl) h ?_ ?_
  ·
    intro h
    refine run_seq ?_
    refine run_reg hm hT hC (ref05_Same_g2 (ref05_Same_K d) y1) h ?_
    intro y2 h
    refine cn_then ?_
    refine run_ret ?_
    refine cn_then_ret ?_
    cases h
    exact (hend _ (by kernel_rfl)).2
  ·
    intro h
    refine run_skip ?_
    refine cn_then ?_
    refine run_seq ?_
    refine run_seq ?_
    refine run_reg hm hT hC (ref05_Same_g3 (ref05_Same_K d) y1) h ?_
    intro y3 h
    refine cn_then ?_
    refine run_block ?_
    refine run_loop (G := iter (ref05_Same_L1 d )) (S := (fun x1 => ⟨[(0, .fz Riii x1.1), (1, .fz Riii x1.2.1), (5, .int .i64 x1.2.2)], []⟩ : List Diii × List Diii × Int → St)) (fun _ => rfl) ?_ d _ h
    intro n1 x1 h K1 hn1
    replace h : ref05_Same_L1 d  (iter (ref05_Same_L1 d ) n1) x1 = some r := h
    generalize iter (ref05_Same_L1 d ) n1 = self1 at h hn1
    unfold ref05_Same_L1 at h
    refine run_seq ?_
    refine run_seq ?_
    refine run_reg hm hT hC (ref05_Same_g4 (ref05_Same_K d) x1) h ?_
    intro y4 h
    refine cn_then ?_
    refine run_cond (v := y4.2.2.2) (by kernel_rfl) h ?_ ?_
    ·
      intro h
      refine run_skip ?_
      refine cn_then ?_
      refine run_seq ?_
      refine run_block ?_
      refine run_seq ?_
      refine run_reg hm hT hC (ref05_Same_g6 (ref05_Same_K d) y4) h ?_
      intro y6 h
      refine cn_then ?_
      refine run_cond (v := y6.2.2.2) (by kernel_rfl) h ?_ ?_
      ·
        intro h
        refine run_seq ?_
        refine run_reg hm hT hC (ref05_Same_g7 (ref05_Same_K d) y6) h ?_
        intro y7 h
        refine cn_then ?_
        refine run_ret ?_
        refine cn_blk_ret ?_
        refine cn_then_ret ?_
        refine cn_then_ret ?_
        refine cn_blk_ret ?_
        refine cn_then_ret ?_
        cases h
        exact (hend _ (by kernel_rfl)).2
      ·
        intro h
        refine run_skip ?_
        refine cn_blk ?_
        refine cn_then ?_
        refine run_reg hm hT hC (ref05_Same_g5 (ref05_Same_K d) y6) h ?_
        intro y5 h
        exact hn1 _ h
    ·
      intro h
      refine run_exit ?_
      refine cn_then_exit ?_
      refine cn_then_exit ?_
      refine cn_blk_eq ?_
      refine cn_then ?_
      refine run_seq ?_
      refine run_reg hm hT hC (ref05_Same_g8 (ref05_Same_K d) y4) h ?_
      intro y8 h
      refine cn_then ?_
      refine run_ret ?_
      cases h
      exact (hend _ (by kernel_rfl)).2
end Go.Proofs.Ytdpnndpbbdhnmaa

namespace Go.Proofs.Ytdpnndpbbdhnmaa
open Go Go.Tx Go.Proofs.Try
set_option maxRecDepth 100000
set_option maxHeartbeats 0
abbrev ref05_Great_ps : List Pk := [.row RLiiiE false]
abbrev ref05_Great_X : Type := DLiiiE × Unit
abbrev ref05_Great_R : Type := Bool
def ref05_Great_enc (r : ref05_Great_R) : LV × List Ob := (.bool r, [])
def ref05_Great_sp (F : ref05_Great_X → Option ref05_Great_R) : Go.Tx.Spec := ⟨12, ref05_Great_ps, ref05_Great_R, F, ref05_Great_enc⟩
abbrev ref05_Great_C : Type := Unit
def ref05_Great_K (_d : Nat) : ref05_Great_C := ()
def ref05_Great_tab (C : ref05_Great_C) : List Go.Tx.Spec := []
abbrev ref05_Great_Y0i : Type := List Diii
def ref05_Great_S0i (v : ref05_Great_Y0i) : St := ⟨[(0, .fz Riii v)], []⟩
def ref05_Great_r0 (C : ref05_Great_C) (v : ref05_Great_Y0i) : Dt ref05_Great_Y0i := (Dt.ret v)
theorem ref05_Great_g0 (C : ref05_Great_C) (v : ref05_Great_Y0i) : treg tysT (orc (ref05_Great_tab C)) 16 (regO (bodyOf f12) 0) false [(0, (.val Riii))] (ref05_Great_S0i v) some = (ref05_Great_r0 C v).eval fun y => some (ref05_Great_S0i y) := by kernel_rfl
abbrev ref05_Great_Y1 : Type := Bool
def ref05_Great_S1 (v : ref05_Great_Y1) : St := ⟨[(2, .bool v)], []⟩
def ref05_Great_r1 (C : ref05_Great_C) (v : ref05_Great_Y0i) : Dt ref05_Great_Y1 := (Dt.ite (decide ((List.length v : Int) > (40:Int))) (Dt.ite (decide ((List.length v : Int) ≤ (300:Int))) (Dt.ret true) (Dt.ret (decide ((List.length v : Int) > (310:Int))))) (Dt.ret (decide ((List.length v : Int) > (310:Int)))))
theorem ref05_Great_g1 (C : ref05_Great_C) (v : ref05_Great_Y0i) : treg tysT (orc (ref05_Great_tab C)) 16 (regO (bodyOf f12) 1) false [(2, .any)] (ref05_Great_S0i v) some = (ref05_Great_r1 C v).eval fun y => some (ref05_Great_S1 y) := by kernel_rfl
def F_ref05_Great (d : Nat) (x : ref05_Great_X) : Option ref05_Great_R :=
  (ref05_Great_r0 (ref05_Great_K d) x.1.1).eval fun y0 =>
  (ref05_Great_r1 (ref05_Great_K d) y0).eval fun y1 =>
  some y1
theorem ref05_Great_cok (d : Nat) : COK prog (ref05_Great_sp (F_ref05_Great d)) := by
  have hm : prog.follows .mixedOrders = true := mixed
  have hT := tys
  have hC0 : OrcOK prog (orc (ref05_Great_tab (ref05_Great_K d))) := orc_ok (by
    intro S hS
    simp only [ref05_Great_tab, List.mem_cons, List.not_mem_nil, or_false] at hS
    all_goals first | cases hS | exact hS.elim)
  have hC : OrcOK prog (orc (ref05_Great_tab (ref05_Great_K d))) := hC0
  refine cok_of (c := bodyOf f12) (fn := f12) hT (by kernel_rfl) (by kernel_rfl) (by decide) fun x r h w0 φ0 Q hend => ?_
  replace h : F_ref05_Great d x = some r := h
  unfold F_ref05_Great at h
  show Run prog w0 φ0 16 (bodyOf f12) ⟨[(0, .fz Riii x.1.1)], []⟩ Q
  refine run_seq ?_
  refine run_reg hm hT hC (ref05_Great_g0 (ref05_Great_K d) x.1.1) h ?_
  intro y0 h
  refine cn_then ?_
  refine run_seq ?_
  refine run_reg hm hT hC (ref05_Great_g1 (ref05_Great_K d) y0) h ?_
  intro y1 h
  refine cn_then ?_
  refine run_ret ?_
  cases h
  exact (hend _ (by kernel_rfl)).2
abbrev law05_CrestMakes_ps : List Pk := [.row RLiiiE true, .row Rii true, .row RLiiiE false, .row Rii true]
abbrev law05_CrestMakes_X : Type := DLiiiE × Dii × DLiiiE × Dii × Unit
abbrev law05_CrestMakes_R : Type := Bool
def law05_CrestMakes_enc (r : law05_CrestMakes_R) : LV × List Ob := (.bool r, [])
def law05_CrestMakes_sp (F : law05_CrestMakes_X → Option law05_CrestMakes_R) : Go.Tx.Spec := ⟨3, law05_CrestMakes_ps, law05_CrestMakes_R, F, law05_CrestMakes_enc⟩
abbrev law05_CrestMakes_C : Type := (ref03_Great_X → Option ref03_Great_R) × (ref05_Great_X → Option ref05_Great_R) × (ref03_Twin_X → Option ref03_Twin_R) × (crest_Of_X → Option crest_Of_R) × (ref05_Of_X → Option ref05_Of_R) × (crest_At_X → Option crest_At_R) × (ref05_At_X → Option ref05_At_R) × (ref05_Same_X → Option ref05_Same_R) × (crest_Check_X → Option crest_Check_R) × (ref05_Check_X → Option ref05_Check_R) × (ref03_Same_X → Option ref03_Same_R) × Unit
def law05_CrestMakes_K (d : Nat) : law05_CrestMakes_C := (F_ref03_Great d, F_ref05_Great d, F_ref03_Twin d, F_crest_Of d, F_ref05_Of d, F_crest_At d, F_ref05_At d, F_ref05_Same d, F_crest_Check d, F_ref05_Check d, F_ref03_Same d, ())
def law05_CrestMakes_tab (C : law05_CrestMakes_C) : List Go.Tx.Spec := [ref03_Great_sp C.1, ref05_Great_sp C.2.1, ref03_Twin_sp C.2.2.1, crest_Of_sp C.2.2.2.1, ref05_Of_sp C.2.2.2.2.1, crest_At_sp C.2.2.2.2.2.1, ref05_At_sp C.2.2.2.2.2.2.1, ref05_Same_sp C.2.2.2.2.2.2.2.1, crest_Check_sp C.2.2.2.2.2.2.2.2.1, ref05_Check_sp C.2.2.2.2.2.2.2.2.2.1, ref03_Same_sp C.2.2.2.2.2.2.2.2.2.2.1]
abbrev law05_CrestMakes_Y0i : Type := List Diii × Int × Int × List Diii × Int × Int
def law05_CrestMakes_S0i (v : law05_CrestMakes_Y0i) : St := ⟨[(0, .agg [.fz Riii v.1]), (1, .agg [.int .i64 v.2.1, .int .i64 v.2.2.1]), (2, .fz Riii v.2.2.2.1), (3, .agg [.int .i64 v.2.2.2.2.1, .int .i64 v.2.2.2.2.2])], []⟩
abbrev law05_CrestMakes_Y0 : Type := List Diii × List Diii × Int × Int × Int × Int
def law05_CrestMakes_S0 (v : law05_CrestMakes_Y0) : St := ⟨[(2, .fz Riii v.1), (4, .ptr 0 0), (5, .ptr 1 0), (7, .ptr 2 0)], [.cells [.fz Riii v.2.1], .cells [.int .i64 v.2.2.1, .int .i64 v.2.2.2.1], .cells [.int .i64 v.2.2.2.2.1, .int .i64 v.2.2.2.2.2]]⟩
def law05_CrestMakes_r0 (C : law05_CrestMakes_C) (v : law05_CrestMakes_Y0i) : Dt law05_CrestMakes_Y0 := (Dt.ret (v.2.2.2.1, v.1, v.2.1, v.2.2.1, v.2.2.2.2.1, v.2.2.2.2.2))
theorem law05_CrestMakes_g0 (C : law05_CrestMakes_C) (v : law05_CrestMakes_Y0i) : treg tysT (orc (law05_CrestMakes_tab C)) 89 (regO (bodyOf f3) 0) false [(2, (.val Riii)), (4, (.box [.val Riii])), (5, .any), (7, .any)] (law05_CrestMakes_S0i v) some = (law05_CrestMakes_r0 C v).eval fun y => some (law05_CrestMakes_S0 y) := by kernel_rfl
abbrev law05_CrestMakes_Y1 : Type := List Diii × Bool × List Diii × Int × Int × Int × Int
def law05_CrestMakes_S1 (v : law05_CrestMakes_Y1) : St := ⟨[(2, .fz Riii v.1), (4, .ptr 0 0), (5, .ptr 1 0), (7, .ptr 2 0), (24, .bool v.2.1)], [.cells [.fz Riii v.2.2.1], .cells [.int .i64 v.2.2.2.1, .int .i64 v.2.2.2.2.1], .cells [.int .i64 v.2.2.2.2.2.1, .int .i64 v.2.2.2.2.2.2]]⟩
def law05_CrestMakes_r1 (C : law05_CrestMakes_C) (v : law05_CrestMakes_Y0) : Dt law05_CrestMakes_Y1 := (Dt.bnd (C.1 ((v.2.1, ()), ())) fun r1 => (Dt.ite r1 (Dt.ret (v.1, true, v.2.1, v.2.2.1, v.2.2.2.1, v.2.2.2.2.1, v.2.2.2.2.2)) (Dt.bnd (C.2.1 ((v.1, ()), ())) fun r2 => (Dt.ret (v.1, r2, v.2.1, v.2.2.1, v.2.2.2.1, v.2.2.2.2.1, v.2.2.2.2.2)))))
theorem law05_CrestMakes_g1 (C : law05_CrestMakes_C) (v : law05_CrestMakes_Y0) : treg tysT (orc (law05_CrestMakes_tab C)) 89 (regO (bodyOf f3) 1) false [(2, (.val Riii)), (4, (.box [.val Riii])), (5, .any), (7, .any), (24, .any)] (law05_CrestMakes_S0 v) some = (law05_CrestMakes_r1 C v).eval fun y => some (law05_CrestMakes_S1 y) := by kernel_rfl
abbrev law05_CrestMakes_Y2 : Type := Bool
def law05_CrestMakes_S2 (v : law05_CrestMakes_Y2) : St := ⟨[(8, .bool v)], []⟩
def law05_CrestMakes_r2 (C : law05_CrestMakes_C) (v : law05_CrestMakes_Y1) : Dt law05_CrestMakes_Y2 := (Dt.ret true)
theorem law05_CrestMakes_g2 (C : law05_CrestMakes_C) (v : law05_CrestMakes_Y1) : treg tysT (orc (law05_CrestMakes_tab C)) 89 (regO (bodyOf f3) 2) false [(8, .any)] (law05_CrestMakes_S1 v) some = (law05_CrestMakes_r2 C v).eval fun y => some (law05_CrestMakes_S2 y) := by kernel_rfl
abbrev law05_CrestMakes_Y3 : Type := List Diii × List Diii × Int × Int × Int × Int × List Diii × List Diii
def law05_CrestMakes_S3 (v : law05_CrestMakes_Y3) : St := ⟨[(2, .fz Riii v.1), (4, .ptr 0 0), (5, .ptr 1 0), (7, .ptr 2 0), (9, .ptr 3 0), (10, .rs 5)], [.cells [.fz Riii v.2.1], .cells [.int .i64 v.2.2.1, .int .i64 v.2.2.2.1], .cells [.int .i64 v.2.2.2.2.1, .int .i64 v.2.2.2.2.2.1], .cells [.rs 4], .rows Riii v.2.2.2.2.2.2.1, .rows Riii v.2.2.2.2.2.2.2]⟩
def law05_CrestMakes_r3 (C : law05_CrestMakes_C) (v : law05_CrestMakes_Y1) : Dt law05_CrestMakes_Y3 := (Dt.bnd (C.2.2.1 ((v.2.2.1, ()), ())) fun r1 => (Dt.ite (apB (List.length ([] : List Diii)) (List.length v.1)) (Dt.ret (v.1, v.2.2.1, v.2.2.2.1, v.2.2.2.2.1, v.2.2.2.2.2.1, v.2.2.2.2.2.2, r1, (([] : List Diii) ++ v.1))) Dt.fail))
theorem law05_CrestMakes_g3 (C : law05_CrestMakes_C) (v : law05_CrestMakes_Y1) : treg tysT (orc (law05_CrestMakes_tab C)) 89 (regO (bodyOf f3) 3) false [(2, (.val Riii)), (4, (.box [.val Riii])), (5, .any), (7, .any), (9, (.box [.own Riii])), (10, (.own Riii))] (law05_CrestMakes_S1 v) some = (law05_CrestMakes_r3 C v).eval fun y => some (law05_CrestMakes_S3 y) := by kernel_rfl
abbrev law05_CrestMakes_Y4 : Type := List Diii × Int × List Diii × Int × Int × Int × Int × List Diii × List Diii × List Diii
def law05_CrestMakes_S4 (v : law05_CrestMakes_Y4) : St := ⟨[(2, .fz Riii v.1), (4, .ptr 0 0), (5, .ptr 1 0), (7, .ptr 2 0), (9, .ptr 3 0), (10, .rs 5), (11, .rs 6), (12, .int .i64 v.2.1)], [.cells [.fz Riii v.2.2.1], .cells [.int .i64 v.2.2.2.1, .int .i64 v.2.2.2.2.1], .cells [.int .i64 v.2.2.2.2.2.1, .int .i64 v.2.2.2.2.2.2.1], .cells [.rs 4], .rows Riii v.2.2.2.2.2.2.2.1, .rows Riii v.2.2.2.2.2.2.2.2.1, .rows Riii v.2.2.2.2.2.2.2.2.2]⟩
def law05_CrestMakes_r4 (C : law05_CrestMakes_C) (v : law05_CrestMakes_Y3) : Dt law05_CrestMakes_Y4 := (Dt.bnd (C.2.2.2.1 ((v.2.2.2.2.2.2.1, ()), (v.2.2.1, v.2.2.2.1, ()), ())) fun r1 => (Dt.ret (v.1, r1.2, v.2.1, v.2.2.1, v.2.2.2.1, v.2.2.2.2.1, v.2.2.2.2.2.1, v.2.2.2.2.2.2.1, v.2.2.2.2.2.2.2, r1.1)))
theorem law05_CrestMakes_g4 (C : law05_CrestMakes_C) (v : law05_CrestMakes_Y3) : treg tysT (orc (law05_CrestMakes_tab C)) 89 (regO (bodyOf f3) 4) false [(2, (.val Riii)), (4, (.box [.val Riii])), (5, .any), (7, .any), (9, (.box [.own Riii])), (10, (.own Riii)), (11, (.own Riii)), (12, .any)] (law05_CrestMakes_S3 v) some = (law05_CrestMakes_r4 C v).eval fun y => some (law05_CrestMakes_S4 y) := by kernel_rfl
abbrev law05_CrestMakes_Y5 : Type := List Diii × Int × Int × List Diii × Int × Int × List Diii × List Diii × List Diii × List Diii
def law05_CrestMakes_S5 (v : law05_CrestMakes_Y5) : St := ⟨[(2, .fz Riii v.1), (4, .ptr 0 0), (7, .ptr 1 0), (9, .ptr 2 0), (10, .rs 4), (11, .rs 5), (12, .int .i64 v.2.1), (13, .rs 6), (14, .int .i64 v.2.2.1)], [.cells [.fz Riii v.2.2.2.1], .cells [.int .i64 v.2.2.2.2.1, .int .i64 v.2.2.2.2.2.1], .cells [.rs 3], .rows Riii v.2.2.2.2.2.2.1, .rows Riii v.2.2.2.2.2.2.2.1, .rows Riii v.2.2.2.2.2.2.2.2.1, .rows Riii v.2.2.2.2.2.2.2.2.2]⟩
def law05_CrestMakes_r5 (C : law05_CrestMakes_C) (v : law05_CrestMakes_Y4) : Dt law05_CrestMakes_Y5 := (Dt.bnd (C.2.2.2.2.1 ((v.2.2.1, ()), (v.2.2.2.1, v.2.2.2.2.1, ()), ())) fun r1 => (Dt.ret (v.1, v.2.1, r1.2, v.2.2.1, v.2.2.2.2.2.1, v.2.2.2.2.2.2.1, v.2.2.2.2.2.2.2.1, v.2.2.2.2.2.2.2.2.1, v.2.2.2.2.2.2.2.2.2, r1.1)))
theorem law05_CrestMakes_g5 (C : law05_CrestMakes_C) (v : law05_CrestMakes_Y4) : treg tysT (orc (law05_CrestMakes_tab C)) 89 (regO (bodyOf f3) 5) false [(2, (.val Riii)), (4, (.box [.val Riii])), (7, .any), (9, (.box [.own Riii])), (10, (.own Riii)), (11, (.own Riii)), (12, .any), (13, (.own Riii)), (14, .any)] (law05_CrestMakes_S4 v) some = (law05_CrestMakes_r5 C v).eval fun y => some (law05_CrestMakes_S5 y) := by kernel_rfl
abbrev law05_CrestMakes_Y6 : Type := List Diii × Int × Int × Int × Int × List Diii × Int × Int × List Diii × List Diii × List Diii × List Diii
def law05_CrestMakes_S6 (v : law05_CrestMakes_Y6) : St := ⟨[(2, .fz Riii v.1), (4, .ptr 0 0), (7, .ptr 1 0), (9, .ptr 2 0), (10, .rs 4), (11, .rs 5), (12, .int .i64 v.2.1), (13, .rs 6), (14, .int .i64 v.2.2.1), (15, .int .i64 v.2.2.2.1), (16, .int .i64 v.2.2.2.2.1)], [.cells [.fz Riii v.2.2.2.2.2.1], .cells [.int .i64 v.2.2.2.2.2.2.1, .int .i64 v.2.2.2.2.2.2.2.1], .cells [.rs 3], .rows Riii v.2.2.2.2.2.2.2.2.1, .rows Riii v.2.2.2.2.2.2.2.2.2.1, .rows Riii v.2.2.2.2.2.2.2.2.2.2.1, .rows Riii v.2.2.2.2.2.2.2.2.2.2.2]⟩
def law05_CrestMakes_r6 (C : law05_CrestMakes_C) (v : law05_CrestMakes_Y5) : Dt law05_CrestMakes_Y6 := (Dt.bnd (C.2.2.2.2.2.1 ((v.1, ()), (v.2.2.2.2.1, v.2.2.2.2.2.1, ()), ())) fun r1 => (Dt.ret (v.1, v.2.1, v.2.2.1, r1.1, r1.2, v.2.2.2.1, v.2.2.2.2.1, v.2.2.2.2.2.1, v.2.2.2.2.2.2.1, v.2.2.2.2.2.2.2.1, v.2.2.2.2.2.2.2.2.1, v.2.2.2.2.2.2.2.2.2)))
theorem law05_CrestMakes_g6 (C : law05_CrestMakes_C) (v : law05_CrestMakes_Y5) : treg tysT (orc (law05_CrestMakes_tab C)) 89 (regO (bodyOf f3) 6) false [(2, (.val Riii)), (4, (.box [.val Riii])), (7, .any), (9, (.box [.own Riii])), (10, (.own Riii)), (11, (.own Riii)), (12, .any), (13, (.own Riii)), (14, .any), (15, .any), (16, .any)] (law05_CrestMakes_S5 v) some = (law05_CrestMakes_r6 C v).eval fun y => some (law05_CrestMakes_S6 y) := by kernel_rfl
abbrev law05_CrestMakes_Y7 : Type := List Diii × Int × Int × Int × Int × Int × Int × List Diii × List Diii × List Diii × List Diii × List Diii
def law05_CrestMakes_S7 (v : law05_CrestMakes_Y7) : St := ⟨[(2, .fz Riii v.1), (4, .ptr 0 0), (9, .ptr 1 0), (10, .rs 3), (11, .rs 4), (12, .int .i64 v.2.1), (13, .rs 5), (14, .int .i64 v.2.2.1), (15, .int .i64 v.2.2.2.1), (16, .int .i64 v.2.2.2.2.1), (17, .int .i64 v.2.2.2.2.2.1), (18, .int .i64 v.2.2.2.2.2.2.1)], [.cells [.fz Riii v.2.2.2.2.2.2.2.1], .cells [.rs 2], .rows Riii v.2.2.2.2.2.2.2.2.1, .rows Riii v.2.2.2.2.2.2.2.2.2.1, .rows Riii v.2.2.2.2.2.2.2.2.2.2.1, .rows Riii v.2.2.2.2.2.2.2.2.2.2.2]⟩
def law05_CrestMakes_r7 (C : law05_CrestMakes_C) (v : law05_CrestMakes_Y6) : Dt law05_CrestMakes_Y7 := (Dt.bnd (C.2.2.2.2.2.2.1 ((v.2.2.2.2.2.2.2.2.2.1, ()), (v.2.2.2.2.2.2.1, v.2.2.2.2.2.2.2.1, ()), ())) fun r1 => (Dt.ret (v.1, v.2.1, v.2.2.1, v.2.2.2.1, v.2.2.2.2.1, r1.1, r1.2, v.2.2.2.2.2.1, v.2.2.2.2.2.2.2.2.1, v.2.2.2.2.2.2.2.2.2.1, v.2.2.2.2.2.2.2.2.2.2.1, v.2.2.2.2.2.2.2.2.2.2.2)))
theorem law05_CrestMakes_g7 (C : law05_CrestMakes_C) (v : law05_CrestMakes_Y6) : treg tysT (orc (law05_CrestMakes_tab C)) 89 (regO (bodyOf f3) 7) false [(2, (.val Riii)), (4, (.box [.val Riii])), (9, (.box [.own Riii])), (10, (.own Riii)), (11, (.own Riii)), (12, .any), (13, (.own Riii)), (14, .any), (15, .any), (16, .any), (17, .any), (18, .any)] (law05_CrestMakes_S6 v) some = (law05_CrestMakes_r7 C v).eval fun y => some (law05_CrestMakes_S7 y) := by kernel_rfl
def law05_CrestMakes_r8 (C : law05_CrestMakes_C) (v : law05_CrestMakes_Y7) : Dt law05_CrestMakes_Y2 := (Dt.bnd (C.2.2.2.2.2.2.2.1 ((v.2.2.2.2.2.2.2.2.2.2.1, ()), (v.2.2.2.2.2.2.2.2.2.2.2, ()), ())) fun r1 => (Dt.ite r1 (Dt.ite (v.2.1 == v.2.2.1) (Dt.bnd (C.2.2.2.2.2.2.2.2.1 ((v.1, ()), ())) fun r2 => (Dt.bnd (C.2.2.2.2.2.2.2.2.2.1 ((v.2.2.2.2.2.2.2.2.2.1, ()), ())) fun r3 => (Dt.ite (r2 == r3) (Dt.ite (v.2.2.2.1 == v.2.2.2.2.2.1) (Dt.ite (v.2.2.2.2.1 == v.2.2.2.2.2.2.1) (Dt.bnd (C.2.2.2.2.2.2.2.2.2.2.1 ((v.2.2.2.2.2.2.2.2.1, ()), (v.2.2.2.2.2.2.2.1, ()), ())) fun r4 => (Dt.ite r4 (Dt.bnd (C.2.2.2.2.2.2.2.1 ((v.1, ()), (v.2.2.2.2.2.2.2.2.2.1, ()), ())) fun r5 => (Dt.ret r5)) (Dt.ret false))) (Dt.ret false)) (Dt.ret false)) (Dt.ret false)))) (Dt.ret false)) (Dt.ret false)))
theorem law05_CrestMakes_g8 (C : law05_CrestMakes_C) (v : law05_CrestMakes_Y7) : treg tysT (orc (law05_CrestMakes_tab C)) 89 (regO (bodyOf f3) 8) false [(8, .any)] (law05_CrestMakes_S7 v) some = (law05_CrestMakes_r8 C v).eval fun y => some (law05_CrestMakes_S2 y) := by kernel_rfl
def F_law05_CrestMakes (d : Nat) (x : law05_CrestMakes_X) : Option law05_CrestMakes_R :=
  (law05_CrestMakes_r0 (law05_CrestMakes_K d) (x.1.1, x.2.1.1, x.2.1.2.1, x.2.2.1.1, x.2.2.2.1.1, x.2.2.2.1.2.1)).eval fun y0 =>
  (law05_CrestMakes_r1 (law05_CrestMakes_K d) y0).eval fun y1 =>
  bif y1.2.1 then ((law05_CrestMakes_r2 (law05_CrestMakes_K d) y1).eval fun y2 =>
  some y2) else ((law05_CrestMakes_r3 (law05_CrestMakes_K d) y1).eval fun y3 =>
  (law05_CrestMakes_r4 (law05_CrestMakes_K d) y3).eval fun y4 =>
  (law05_CrestMakes_r5 (law05_CrestMakes_K d) y4).eval fun y5 =>
  (law05_CrestMakes_r6 (law05_CrestMakes_K d) y5).eval fun y6 =>
  (law05_CrestMakes_r7 (law05_CrestMakes_K d) y6).eval fun y7 =>
  (law05_CrestMakes_r8 (law05_CrestMakes_K d) y7).eval fun y8 =>
  some y8)
theorem law05_CrestMakes_cok (d : Nat) : COK prog (law05_CrestMakes_sp (F_law05_CrestMakes d)) := by
  have hm : prog.follows .mixedOrders = true := mixed
  have hT := tys
  have hC0 : OrcOK prog (orc (law05_CrestMakes_tab (law05_CrestMakes_K d))) := orc_ok (by
    intro S hS
    simp only [law05_CrestMakes_tab, List.mem_cons, List.not_mem_nil, or_false] at hS
    rcases hS with rfl | rfl | rfl | rfl | rfl | rfl | rfl | rfl | rfl | rfl | rfl
    · exact ref03_Great_cok d
    · exact ref05_Great_cok d
    · exact ref03_Twin_cok d
    · exact crest_Of_cok d
    · exact ref05_Of_cok d
    · exact crest_At_cok d
    · exact ref05_At_cok d
    · exact ref05_Same_cok d
    · exact crest_Check_cok d
    · exact ref05_Check_cok d
    · exact ref03_Same_cok d)
  have hC : OrcOK prog (orc (law05_CrestMakes_tab (law05_CrestMakes_K d))) := hC0
  refine cok_of (c := bodyOf f3) (fn := f3) hT (by kernel_rfl) (by kernel_rfl) (by decide) fun x r h w0 φ0 Q hend => ?_
  replace h : F_law05_CrestMakes d x = some r := h
  unfold F_law05_CrestMakes at h
  show Run prog w0 φ0 89 (bodyOf f3) ⟨[(0, .agg [.fz Riii x.1.1]), (1, .agg [.int .i64 x.2.1.1, .int .i64 x.2.1.2.1]), (2, .fz Riii x.2.2.1.1), (3, .agg [.int .i64 x.2.2.2.1.1, .int .i64 x.2.2.2.1.2.1])], []⟩ Q
  refine run_seq ?_
  refine run_reg hm hT hC (law05_CrestMakes_g0 (law05_CrestMakes_K d) (x.1.1, x.2.1.1, x.2.1.2.1, x.2.2.1.1, x.2.2.2.1.1, x.2.2.2.1.2.1)) h ?_
  intro y0 h
  refine cn_then ?_
  refine run_seq ?_
  refine run_seq ?_
  refine run_reg hm hT hC (law05_CrestMakes_g1 (law05_CrestMakes_K d) y0) h ?_
  intro y1 h
  refine cn_then ?_
  refine run_cond (v := y1.2.1) (by kernel_rfl) h ?_ ?_
  ·
    intro h
    refine run_seq ?_
    refine run_reg hm hT hC (law05_CrestMakes_g2 (law05_CrestMakes_K d) y1) h ?_
    intro y2 h
    refine cn_then ?_
    refine run_ret ?_
    refine cn_then_ret ?_
    cases h
    exact (hend _ (by kernel_rfl)).2
  ·
    intro h
    refine run_skip ?_
    refine cn_then ?_
    refine run_seq ?_
    refine run_reg hm hT hC (law05_CrestMakes_g3 (law05_CrestMakes_K d) y1) h ?_
    intro y3 h
    refine cn_then ?_
    refine run_seq ?_
    refine run_reg hm hT hC (law05_CrestMakes_g4 (law05_CrestMakes_K d) y3) h ?_
    intro y4 h
    refine cn_then ?_
    refine run_seq ?_
    refine run_reg hm hT hC (law05_CrestMakes_g5 (law05_CrestMakes_K d) y4) h ?_
    intro y5 h
    refine cn_then ?_
    refine run_seq ?_
    refine run_reg hm hT hC (law05_CrestMakes_g6 (law05_CrestMakes_K d) y5) h ?_
    intro y6 h
    refine cn_then ?_
    refine run_seq ?_
    refine run_reg hm hT hC (law05_CrestMakes_g7 (law05_CrestMakes_K d) y6) h ?_
    intro y7 h
    refine cn_then ?_
    refine run_seq ?_
    refine run_reg hm hT hC (law05_CrestMakes_g8 (law05_CrestMakes_K d) y7) h ?_
    intro y8 h
    refine cn_then ?_
    refine run_ret ?_
    cases h
    exact (hend _ (by kernel_rfl)).2
end Go.Proofs.Ytdpnndpbbdhnmaa
