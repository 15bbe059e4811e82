/- Walks of the references; the orders agree; examples. -/
import Derived.Test.YtdpnndpbbdhnmaaGd
set_option linter.unusedSimpArgs false
set_option linter.unusedVariables false
namespace Go.Proofs.Ytdpnndpbbdhnmaa
open Go Go.Tx Go.Proofs.Try
set_option maxRecDepth 100000
set_option maxHeartbeats 0
abbrev crest_compare_ps : List Pk := [.row Rii true, .row Rii true]
abbrev crest_compare_X : Type := Dii × Dii × Unit
abbrev crest_compare_R : Type := Int
def crest_compare_enc (r : crest_compare_R) : LV × List Ob := (.int .i64 r, [])
def crest_compare_sp (F : crest_compare_X → Option crest_compare_R) : Go.Tx.Spec := ⟨47, crest_compare_ps, crest_compare_R, F, crest_compare_enc⟩
abbrev crest_compare_C : Type := (ratio_Cmp_X → Option ratio_Cmp_R) × Unit
def crest_compare_K (d : Nat) : crest_compare_C := (F_ratio_Cmp d, ())
def crest_compare_tab (C : crest_compare_C) : List Go.Tx.Spec := [ratio_Cmp_sp C.1]
abbrev crest_compare_Y0i : Type := Int × Int × Int × Int
def crest_compare_S0i (v : crest_compare_Y0i) : St := ⟨[(0, .agg [.int .i64 v.1, .int .i64 v.2.1]), (1, .agg [.int .i64 v.2.2.1, .int .i64 v.2.2.2])], []⟩
abbrev crest_compare_Y0 : Type := Int × Int × Int × Int
def crest_compare_S0 (v : crest_compare_Y0) : St := ⟨[(2, .ptr 0 0), (3, .ptr 1 0)], [.cells [.int .i64 v.1, .int .i64 v.2.1], .cells [.int .i64 v.2.2.1, .int .i64 v.2.2.2]]⟩
def crest_compare_r0 (C : crest_compare_C) (v : crest_compare_Y0i) : Dt crest_compare_Y0 := (Dt.ret (v.1, v.2.1, v.2.2.1, v.2.2.2))
theorem crest_compare_g0 (C : crest_compare_C) (v : crest_compare_Y0i) : treg tysT (orc (crest_compare_tab C)) 14 (regO (bodyOf f47) 0) false [(2, .any), (3, .any)] (crest_compare_S0i v) some = (crest_compare_r0 C v).eval fun y => some (crest_compare_S0 y) := by kernel_rfl
abbrev crest_compare_Y1 : Type := Int
def crest_compare_S1 (v : crest_compare_Y1) : St := ⟨[(5, .int .i64 v)], []⟩
def crest_compare_r1 (C : crest_compare_C) (v : crest_compare_Y0) : Dt crest_compare_Y1 := (Dt.bnd (C.1 ((v.1, v.2.1, ()), (v.2.2.1, v.2.2.2, ()), ())) fun r1 => (Dt.ret r1.1))
theorem crest_compare_g1 (C : crest_compare_C) (v : crest_compare_Y0) : treg tysT (orc (crest_compare_tab C)) 14 (regO (bodyOf f47) 1) false [(5, .any)] (crest_compare_S0 v) some = (crest_compare_r1 C v).eval fun y => some (crest_compare_S1 y) := by kernel_rfl
abbrev crest_compare_Y2 : Type := Int
def crest_compare_S2 (v : crest_compare_Y2) : St := ⟨[(4, .int .i64 v)], []⟩
def crest_compare_r2 (C : crest_compare_C) (v : crest_compare_Y1) : Dt crest_compare_Y2 := (Dt.ret v)
theorem crest_compare_g2 (C : crest_compare_C) (v : crest_compare_Y1) : treg tysT (orc (crest_compare_tab C)) 14 (regO (bodyOf f47) 2) false [(4, .any)] (crest_compare_S1 v) some = (crest_compare_r2 C v).eval fun y => some (crest_compare_S2 y) := by kernel_rfl
def F_crest_compare (d : Nat) (x : crest_compare_X) : Option crest_compare_R :=
  (crest_compare_r0 (crest_compare_K d) (x.1.1, x.1.2.1, x.2.1.1, x.2.1.2.1)).eval fun y0 =>
  (crest_compare_r1 (crest_compare_K d) y0).eval fun y1 =>
  (crest_compare_r2 (crest_compare_K d) y1).eval fun y2 =>
  some y2
theorem crest_compare_cok (d : Nat) : COK prog (crest_compare_sp (F_crest_compare d)) := by
  have hm : prog.follows .mixedOrders = true := mixed
  have hT := tys
  have hC0 : OrcOK prog (orc (crest_compare_tab (crest_compare_K d))) := orc_ok (by
    intro S hS
    simp only [crest_compare_tab, List.mem_cons, List.not_mem_nil, or_false] at hS
    subst hS; exact ratio_Cmp_cok d)
  have hC : OrcOK prog (orc (crest_compare_tab (crest_compare_K d))) := hC0
  refine cok_of (c := bodyOf f47) (fn := f47) hT (by kernel_rfl) (by kernel_rfl) (by decide) fun x r h w0 φ0 Q hend => ?_
  replace h : F_crest_compare d x = some r := h
  unfold F_crest_compare at h
  show Run prog w0 φ0 14 (bodyOf f47) ⟨[(0, .agg [.int .i64 x.1.1, .int .i64 x.1.2.1]), (1, .agg [.int .i64 x.2.1.1, .int .i64 x.2.1.2.1])], []⟩ Q
  refine run_seq ?_
  refine run_reg hm hT hC (crest_compare_g0 (crest_compare_K d) (x.1.1, x.1.2.1, x.2.1.1, x.2.1.2.1)) h ?_
  intro y0 h
  refine cn_then ?_
  refine run_seq ?_
  refine run_reg hm hT hC (crest_compare_g1 (crest_compare_K d) y0) h ?_
  intro y1 h
  refine cn_then ?_
  refine run_seq ?_
  refine run_reg hm hT hC (crest_compare_g2 (crest_compare_K d) y1) h ?_
  intro y2 h
  refine cn_then ?_
  refine run_ret ?_
  cases h
  exact (hend _ (by kernel_rfl)).2
abbrev crest_Of_ps : List Pk := [.row RLiiiE true, .row Rii true]
abbrev crest_Of_X : Type := DLiiiE × Dii × Unit
abbrev crest_Of_R : Type := List Diii × Int
def crest_Of_enc (r : crest_Of_R) : LV × List Ob := (.tup [.rs 0, .int .i64 r.2], [.rows Riii r.1])
def crest_Of_sp (F : crest_Of_X → Option crest_Of_R) : Go.Tx.Spec := ⟨14, crest_Of_ps, crest_Of_R, F, crest_Of_enc⟩
abbrev crest_Of_C : Type := (field_Order_X → Option field_Order_R) × (field_Find_X → Option field_Find_R) × (course_Fails_X → Option course_Fails_R) × (crest_compare_X → Option crest_compare_R) × (course_Ahead_X → Option course_Ahead_R) × Unit
def crest_Of_K (d : Nat) : crest_Of_C := (F_field_Order d, F_field_Find d, F_course_Fails d, F_crest_compare d, F_course_Ahead d, ())
def crest_Of_tab (C : crest_Of_C) : List Go.Tx.Spec := [field_Order_sp C.1, field_Find_sp C.2.1, course_Fails_sp C.2.2.1, crest_compare_sp C.2.2.2.1, course_Ahead_sp C.2.2.2.2.1]
abbrev crest_Of_Y0i : Type := List Diii × Int × Int
def crest_Of_S0i (v : crest_Of_Y0i) : St := ⟨[(0, .agg [.fz Riii v.1]), (1, .agg [.int .i64 v.2.1, .int .i64 v.2.2])], []⟩
abbrev crest_Of_Y0 : Type := List Diii × Int × Int
def crest_Of_S0 (v : crest_Of_Y0) : St := ⟨[(2, .ptr 0 0), (3, .ptr 1 0)], [.cells [.fz Riii v.1], .cells [.int .i64 v.2.1, .int .i64 v.2.2]]⟩
def crest_Of_r0 (C : crest_Of_C) (v : crest_Of_Y0i) : Dt crest_Of_Y0 := (Dt.ret (v.1, v.2.1, v.2.2))
theorem crest_Of_g0 (C : crest_Of_C) (v : crest_Of_Y0i) : treg tysT (orc (crest_Of_tab C)) 101 (regO (bodyOf f14) 0) false [(2, (.box [.val Riii])), (3, .any)] (crest_Of_S0i v) some = (crest_Of_r0 C v).eval fun y => some (crest_Of_S0 y) := by kernel_rfl
abbrev crest_Of_Y1 : Type := Int × List Diii × Int × Int × List Di
def crest_Of_S1 (v : crest_Of_Y1) : St := ⟨[(2, .ptr 0 0), (3, .ptr 1 0), (6, .rs 2), (7, .int .i64 v.1)], [.cells [.fz Riii v.2.1], .cells [.int .i64 v.2.2.1, .int .i64 v.2.2.2.1], .rows Ri v.2.2.2.2]⟩
def crest_Of_r1 (C : crest_Of_C) (v : crest_Of_Y0) : Dt crest_Of_Y1 := (Dt.bnd (C.1 ((v.1, ()), (v.2.1, v.2.2, ()), ())) fun r1 => (Dt.ret (r1.2, v.1, v.2.1, v.2.2, r1.1)))
theorem crest_Of_g1 (C : crest_Of_C) (v : crest_Of_Y0) : treg tysT (orc (crest_Of_tab C)) 101 (regO (bodyOf f14) 1) false [(2, (.box [.val Riii])), (3, .any), (6, (.own Ri)), (7, .any)] (crest_Of_S0 v) some = (crest_Of_r1 C v).eval fun y => some (crest_Of_S1 y) := by kernel_rfl
abbrev crest_Of_Y2 : Type := Int × Bool × List Diii × Int × Int × List Di
def crest_Of_S2 (v : crest_Of_Y2) : St := ⟨[(2, .ptr 0 0), (3, .ptr 1 0), (6, .rs 2), (7, .int .i64 v.1), (28, .bool v.2.1)], [.cells [.fz Riii v.2.2.1], .cells [.int .i64 v.2.2.2.1, .int .i64 v.2.2.2.2.1], .rows Ri v.2.2.2.2.2]⟩
def crest_Of_r2 (C : crest_Of_C) (v : crest_Of_Y1) : Dt crest_Of_Y2 := (Dt.ret (v.1, (v.1 != (0:Int)), v.2.1, v.2.2.1, v.2.2.2.1, v.2.2.2.2))
theorem crest_Of_g2 (C : crest_Of_C) (v : crest_Of_Y1) : treg tysT (orc (crest_Of_tab C)) 101 (regO (bodyOf f14) 2) false [(2, (.box [.val Riii])), (3, .any), (6, (.own Ri)), (7, .any), (28, .any)] (crest_Of_S1 v) some = (crest_Of_r2 C v).eval fun y => some (crest_Of_S2 y) := by kernel_rfl
abbrev crest_Of_Y3 : Type := Int × List Diii
def crest_Of_S3 (v : crest_Of_Y3) : St := ⟨[(4, .rs 0), (5, .int .i64 v.1)], [.rows Riii v.2]⟩
def crest_Of_r3 (C : crest_Of_C) (v : crest_Of_Y2) : Dt crest_Of_Y3 := (Dt.ret (v.1, ([] : List Diii)))
theorem crest_Of_g3 (C : crest_Of_C) (v : crest_Of_Y2) : treg tysT (orc (crest_Of_tab C)) 101 (regO (bodyOf f14) 3) false [(4, (.own Riii)), (5, .any)] (crest_Of_S2 v) some = (crest_Of_r3 C v).eval fun y => some (crest_Of_S3 y) := by kernel_rfl
abbrev crest_Of_Y4 : Type := Bool × List Diii × Int × Int × List Di
def crest_Of_S4 (v : crest_Of_Y4) : St := ⟨[(2, .ptr 0 0), (3, .ptr 1 0), (6, .rs 2), (32, .bool v.1)], [.cells [.fz Riii v.2.1], .cells [.int .i64 v.2.2.1, .int .i64 v.2.2.2.1], .rows Ri v.2.2.2.2]⟩
def crest_Of_r4 (C : crest_Of_C) (v : crest_Of_Y2) : Dt crest_Of_Y4 := (Dt.ret (((List.length v.2.2.2.2.2 : Int) == (0:Int)), v.2.2.1, v.2.2.2.1, v.2.2.2.2.1, v.2.2.2.2.2))
theorem crest_Of_g4 (C : crest_Of_C) (v : crest_Of_Y2) : treg tysT (orc (crest_Of_tab C)) 101 (regO (bodyOf f14) 4) false [(2, (.box [.val Riii])), (3, .any), (6, (.own Ri)), (32, .any)] (crest_Of_S2 v) some = (crest_Of_r4 C v).eval fun y => some (crest_Of_S4 y) := by kernel_rfl
def crest_Of_r5 (C : crest_Of_C) (v : crest_Of_Y4) : Dt crest_Of_Y3 := (Dt.ret ((42:Int), ([] : List Diii)))
theorem crest_Of_g5 (C : crest_Of_C) (v : crest_Of_Y4) : treg tysT (orc (crest_Of_tab C)) 101 (regO (bodyOf f14) 5) false [(4, (.own Riii)), (5, .any)] (crest_Of_S4 v) some = (crest_Of_r5 C v).eval fun y => some (crest_Of_S3 y) := by kernel_rfl
abbrev crest_Of_Y6 : Type := List Diii × Int × Int × Int × Int × Int
def crest_Of_S6 (v : crest_Of_Y6) : St := ⟨[(2, .ptr 0 0), (3, .ptr 1 0), (8, .ptr 2 0)], [.cells [.fz Riii v.1], .cells [.int .i64 v.2.1, .int .i64 v.2.2.1], .cells [.int .i64 v.2.2.2.1, .int .i64 v.2.2.2.2.1, .int .i64 v.2.2.2.2.2]]⟩
def crest_Of_r6 (C : crest_Of_C) (v : crest_Of_Y4) : Dt crest_Of_Y6 := (Dt.ite (inB (0:Int) (List.length v.2.2.2.2)) (Dt.bnd (C.2.1 ((v.2.1, ()), ((elt zi v.2.2.2.2 ((0:Int)).toNat).1, ()), ())) fun r1 => (Dt.ret (v.2.1, v.2.2.1, v.2.2.2.1, r1.1, r1.2.1, r1.2.2.1))) Dt.fail)
theorem crest_Of_g6 (C : crest_Of_C) (v : crest_Of_Y4) : treg tysT (orc (crest_Of_tab C)) 101 (regO (bodyOf f14) 6) true [(2, (.box [.val Riii])), (3, .any), (8, .any)] (crest_Of_S4 v) some = (crest_Of_r6 C v).eval fun y => some (crest_Of_S6 y) := by kernel_rfl
abbrev crest_Of_Y7 : Type := List Diii × Int × Int × Int × Int × Int × List Diii
def crest_Of_S7 (v : crest_Of_Y7) : St := ⟨[(2, .ptr 0 0), (3, .ptr 1 0), (8, .ptr 2 0), (10, .rs 3)], [.cells [.fz Riii v.1], .cells [.int .i64 v.2.1, .int .i64 v.2.2.1], .cells [.int .i64 v.2.2.2.1, .int .i64 v.2.2.2.2.1, .int .i64 v.2.2.2.2.2.1], .rows Riii v.2.2.2.2.2.2]⟩
def crest_Of_r7 (C : crest_Of_C) (v : crest_Of_Y6) : Dt crest_Of_Y7 := (Dt.ret (v.1, v.2.1, v.2.2.1, v.2.2.2.1, v.2.2.2.2.1, v.2.2.2.2.2, ([(v.2.1, v.2.2.1, v.2.2.2.1, ())] : List Diii)))
theorem crest_Of_g7 (C : crest_Of_C) (v : crest_Of_Y6) : treg tysT (orc (crest_Of_tab C)) 101 (regO (bodyOf f14) 7) false [(2, (.box [.val Riii])), (3, .any), (8, .any), (10, (.own Riii))] (crest_Of_S6 v) some = (crest_Of_r7 C v).eval fun y => some (crest_Of_S7 y) := by kernel_rfl
abbrev crest_Of_Y8 : Type := List Diii × Int × Int × Int × Int × Int × List Diii × Int × Int × Int
def crest_Of_S8 (v : crest_Of_Y8) : St := ⟨[(2, .ptr 0 0), (3, .ptr 1 0), (8, .ptr 2 0), (10, .rs 3), (11, .ptr 4 0)], [.cells [.fz Riii v.1], .cells [.int .i64 v.2.1, .int .i64 v.2.2.1], .cells [.int .i64 v.2.2.2.1, .int .i64 v.2.2.2.2.1, .int .i64 v.2.2.2.2.2.1], .rows Riii v.2.2.2.2.2.2.1, .cells [.int .i64 v.2.2.2.2.2.2.2.1, .int .i64 v.2.2.2.2.2.2.2.2.1, .int .i64 v.2.2.2.2.2.2.2.2.2]]⟩
def crest_Of_r8 (C : crest_Of_C) (v : crest_Of_Y7) : Dt crest_Of_Y8 := (Dt.ret (v.1, v.2.1, v.2.2.1, v.2.2.2.1, v.2.2.2.2.1, v.2.2.2.2.2.1, v.2.2.2.2.2.2, (0:Int), (0:Int), (0:Int)))
theorem crest_Of_g8 (C : crest_Of_C) (v : crest_Of_Y7) : treg tysT (orc (crest_Of_tab C)) 101 (regO (bodyOf f14) 8) false [(2, (.box [.val Riii])), (3, .any), (8, .any), (10, (.own Riii)), (11, .any)] (crest_Of_S7 v) some = (crest_Of_r8 C v).eval fun y => some (crest_Of_S8 y) := by kernel_rfl
abbrev crest_Of_Y9 : Type := List Diii × Int × Int × Int × Int × Int × List Diii × Int × Int × Int × Int × Int
def crest_Of_S9 (v : crest_Of_Y9) : St := ⟨[(2, .ptr 0 0), (3, .ptr 1 0), (8, .ptr 2 0), (10, .rs 3), (11, .ptr 4 0), (12, .ptr 5 0)], [.cells [.fz Riii v.1], .cells [.int .i64 v.2.1, .int .i64 v.2.2.1], .cells [.int .i64 v.2.2.2.1, .int .i64 v.2.2.2.2.1, .int .i64 v.2.2.2.2.2.1], .rows Riii v.2.2.2.2.2.2.1, .cells [.int .i64 v.2.2.2.2.2.2.2.1, .int .i64 v.2.2.2.2.2.2.2.2.1, .int .i64 v.2.2.2.2.2.2.2.2.2.1], .cells [.int .i64 v.2.2.2.2.2.2.2.2.2.2.1, .int .i64 v.2.2.2.2.2.2.2.2.2.2.2]]⟩
def crest_Of_r9 (C : crest_Of_C) (v : crest_Of_Y8) : Dt crest_Of_Y9 := (Dt.ret (v.1, v.2.1, v.2.2.1, v.2.2.2.1, v.2.2.2.2.1, v.2.2.2.2.2.1, v.2.2.2.2.2.2.1, v.2.2.2.2.2.2.2.1, v.2.2.2.2.2.2.2.2.1, v.2.2.2.2.2.2.2.2.2, (0:Int), (0:Int)))
theorem crest_Of_g9 (C : crest_Of_C) (v : crest_Of_Y8) : treg tysT (orc (crest_Of_tab C)) 101 (regO (bodyOf f14) 9) false [(2, (.box [.val Riii])), (3, .any), (8, .any), (10, (.own Riii)), (11, .any), (12, .any)] (crest_Of_S8 v) some = (crest_Of_r9 C v).eval fun y => some (crest_Of_S9 y) := by kernel_rfl
abbrev crest_Of_Y10 : Type := List Diii × Int × Int × List Diii × Int × Int × Int × Int × Int × List Diii × Int × Int × Int × Int × Int
def crest_Of_S10 (v : crest_Of_Y10) : St := ⟨[(2, .ptr 0 0), (3, .ptr 1 0), (8, .ptr 2 0), (10, .rs 3), (11, .ptr 4 0), (12, .ptr 5 0), (47, .fz Riii v.1), (48, .int .i64 v.2.1), (49, .int .i64 v.2.2.1)], [.cells [.fz Riii v.2.2.2.1], .cells [.int .i64 v.2.2.2.2.1, .int .i64 v.2.2.2.2.2.1], .cells [.int .i64 v.2.2.2.2.2.2.1, .int .i64 v.2.2.2.2.2.2.2.1, .int .i64 v.2.2.2.2.2.2.2.2.1], .rows Riii v.2.2.2.2.2.2.2.2.2.1, .cells [.int .i64 v.2.2.2.2.2.2.2.2.2.2.1, .int .i64 v.2.2.2.2.2.2.2.2.2.2.2.1, .int .i64 v.2.2.2.2.2.2.2.2.2.2.2.2.1], .cells [.int .i64 v.2.2.2.2.2.2.2.2.2.2.2.2.2.1, .int .i64 v.2.2.2.2.2.2.2.2.2.2.2.2.2.2]]⟩
def crest_Of_r10 (C : crest_Of_C) (v : crest_Of_Y9) : Dt crest_Of_Y10 := (Dt.ret (v.1, (List.length v.1 : Int), (0:Int), v.1, v.2.1, v.2.2.1, v.2.2.2.1, v.2.2.2.2.1, v.2.2.2.2.2.1, v.2.2.2.2.2.2.1, v.2.2.2.2.2.2.2.1, v.2.2.2.2.2.2.2.2.1, v.2.2.2.2.2.2.2.2.2.1, v.2.2.2.2.2.2.2.2.2.2.1, v.2.2.2.2.2.2.2.2.2.2.2))
theorem crest_Of_g10 (C : crest_Of_C) (v : crest_Of_Y9) : treg tysT (orc (crest_Of_tab C)) 101 (regO (bodyOf f14) 10) false [(2, (.box [.val Riii])), (3, .any), (8, .any), (10, (.own Riii)), (11, .any), (12, .any), (47, (.val Riii)), (48, .any), (49, .any)] (crest_Of_S9 v) some = (crest_Of_r10 C v).eval fun y => some (crest_Of_S10 y) := by kernel_rfl
abbrev crest_Of_Y11 : Type := List Diii × Int × Int × Bool × List Diii × Int × Int × Int × Int × Int × List Diii × Int × Int × Int × Int × Int
def crest_Of_S11 (v : crest_Of_Y11) : St := ⟨[(2, .ptr 0 0), (3, .ptr 1 0), (8, .ptr 2 0), (10, .rs 3), (11, .ptr 4 0), (12, .ptr 5 0), (47, .fz Riii v.1), (48, .int .i64 v.2.1), (49, .int .i64 v.2.2.1), (50, .bool v.2.2.2.1)], [.cells [.fz Riii v.2.2.2.2.1], .cells [.int .i64 v.2.2.2.2.2.1, .int .i64 v.2.2.2.2.2.2.1], .cells [.int .i64 v.2.2.2.2.2.2.2.1, .int .i64 v.2.2.2.2.2.2.2.2.1, .int .i64 v.2.2.2.2.2.2.2.2.2.1], .rows Riii v.2.2.2.2.2.2.2.2.2.2.1, .cells [.int .i64 v.2.2.2.2.2.2.2.2.2.2.2.1, .int .i64 v.2.2.2.2.2.2.2.2.2.2.2.2.1, .int .i64 v.2.2.2.2.2.2.2.2.2.2.2.2.2.1], .cells [.int .i64 v.2.2.2.2.2.2.2.2.2.2.2.2.2.2.1, .int .i64 v.2.2.2.2.2.2.2.2.2.2.2.2.2.2.2]]⟩
def crest_Of_r11 (C : crest_Of_C) (v : crest_Of_Y10) : Dt crest_Of_Y11 := (Dt.ret (v.1, v.2.1, v.2.2.1, (decide (v.2.2.1 < v.2.1)), v.2.2.2.1, v.2.2.2.2.1, v.2.2.2.2.2.1, v.2.2.2.2.2.2.1, v.2.2.2.2.2.2.2.1, v.2.2.2.2.2.2.2.2.1, v.2.2.2.2.2.2.2.2.2.1, v.2.2.2.2.2.2.2.2.2.2.1, v.2.2.2.2.2.2.2.2.2.2.2.1, v.2.2.2.2.2.2.2.2.2.2.2.2.1, v.2.2.2.2.2.2.2.2.2.2.2.2.2.1, v.2.2.2.2.2.2.2.2.2.2.2.2.2.2))
theorem crest_Of_g11 (C : crest_Of_C) (v : crest_Of_Y10) : treg tysT (orc (crest_Of_tab C)) 101 (regO (bodyOf f14) 11) false [(2, (.box [.val Riii])), (3, .any), (8, .any), (10, (.own Riii)), (11, .any), (12, .any), (47, (.val Riii)), (48, .any), (49, .any), (50, .any)] (crest_Of_S10 v) some = (crest_Of_r11 C v).eval fun y => some (crest_Of_S11 y) := by kernel_rfl
abbrev crest_Of_Y12 : Type := List Diii × Int × Int × List Diii × Int × Int × Int × Int × Int × List Diii × Int × Int × Int × Int × Int × Int × Int × Int
def crest_Of_S12 (v : crest_Of_Y12) : St := ⟨[(2, .ptr 0 0), (3, .ptr 1 0), (8, .ptr 2 0), (10, .rs 3), (11, .ptr 4 0), (12, .ptr 5 0), (14, .ptr 6 0), (47, .fz Riii v.1), (48, .int .i64 v.2.1), (49, .int .i64 v.2.2.1)], [.cells [.fz Riii v.2.2.2.1], .cells [.int .i64 v.2.2.2.2.1, .int .i64 v.2.2.2.2.2.1], .cells [.int .i64 v.2.2.2.2.2.2.1, .int .i64 v.2.2.2.2.2.2.2.1, .int .i64 v.2.2.2.2.2.2.2.2.1], .rows Riii v.2.2.2.2.2.2.2.2.2.1, .cells [.int .i64 v.2.2.2.2.2.2.2.2.2.2.1, .int .i64 v.2.2.2.2.2.2.2.2.2.2.2.1, .int .i64 v.2.2.2.2.2.2.2.2.2.2.2.2.1], .cells [.int .i64 v.2.2.2.2.2.2.2.2.2.2.2.2.2.1, .int .i64 v.2.2.2.2.2.2.2.2.2.2.2.2.2.2.1], .cells [.int .i64 v.2.2.2.2.2.2.2.2.2.2.2.2.2.2.2.1, .int .i64 v.2.2.2.2.2.2.2.2.2.2.2.2.2.2.2.2.1, .int .i64 v.2.2.2.2.2.2.2.2.2.2.2.2.2.2.2.2.2]]⟩
def crest_Of_r12 (C : crest_Of_C) (v : crest_Of_Y11) : Dt crest_Of_Y12 := (Dt.ite (inB v.2.2.1 (List.length v.1)) (Dt.ret (v.1, v.2.1, v.2.2.1, v.2.2.2.2.1, v.2.2.2.2.2.1, v.2.2.2.2.2.2.1, v.2.2.2.2.2.2.2.1, v.2.2.2.2.2.2.2.2.1, v.2.2.2.2.2.2.2.2.2.1, v.2.2.2.2.2.2.2.2.2.2.1, v.2.2.2.2.2.2.2.2.2.2.2.1, v.2.2.2.2.2.2.2.2.2.2.2.2.1, v.2.2.2.2.2.2.2.2.2.2.2.2.2.1, v.2.2.2.2.2.2.2.2.2.2.2.2.2.2.1, v.2.2.2.2.2.2.2.2.2.2.2.2.2.2.2, (elt ziii v.1 (v.2.2.1).toNat).1, (elt ziii v.1 (v.2.2.1).toNat).2.1, (elt ziii v.1 (v.2.2.1).toNat).2.2.1)) Dt.fail)
theorem crest_Of_g12 (C : crest_Of_C) (v : crest_Of_Y11) : treg tysT (orc (crest_Of_tab C)) 101 (regO (bodyOf f14) 12) false [(2, (.box [.val Riii])), (3, .any), (8, .any), (10, (.own Riii)), (11, .any), (12, .any), (14, .any), (47, (.val Riii)), (48, .any), (49, .any)] (crest_Of_S11 v) some = (crest_Of_r12 C v).eval fun y => some (crest_Of_S12 y) := by kernel_rfl
abbrev crest_Of_Y13 : Type := Bool × Int × List Diii × Int × Int × List Diii × Int × Int × Int × Int × Int × List Diii × Int × Int × Int × Int × Int × Int × Int × Int × Int × Int
def crest_Of_S13 (v : crest_Of_Y13) : St := ⟨[(2, .ptr 0 0), (3, .ptr 1 0), (8, .ptr 2 0), (10, .rs 3), (11, .ptr 4 0), (12, .ptr 5 0), (14, .ptr 6 0), (15, .ptr 7 0), (16, .bool v.1), (17, .int .i64 v.2.1), (47, .fz Riii v.2.2.1), (48, .int .i64 v.2.2.2.1), (49, .int .i64 v.2.2.2.2.1)], [.cells [.fz Riii v.2.2.2.2.2.1], .cells [.int .i64 v.2.2.2.2.2.2.1, .int .i64 v.2.2.2.2.2.2.2.1], .cells [.int .i64 v.2.2.2.2.2.2.2.2.1, .int .i64 v.2.2.2.2.2.2.2.2.2.1, .int .i64 v.2.2.2.2.2.2.2.2.2.2.1], .rows Riii v.2.2.2.2.2.2.2.2.2.2.2.1, .cells [.int .i64 v.2.2.2.2.2.2.2.2.2.2.2.2.1, .int .i64 v.2.2.2.2.2.2.2.2.2.2.2.2.2.1, .int .i64 v.2.2.2.2.2.2.2.2.2.2.2.2.2.2.1], .cells [.int .i64 v.2.2.2.2.2.2.2.2.2.2.2.2.2.2.2.1, .int .i64 v.2.2.2.2.2.2.2.2.2.2.2.2.2.2.2.2.1], .cells [.int .i64 v.2.2.2.2.2.2.2.2.2.2.2.2.2.2.2.2.2.1, .int .i64 v.2.2.2.2.2.2.2.2.2.2.2.2.2.2.2.2.2.2.1, .int .i64 v.2.2.2.2.2.2.2.2.2.2.2.2.2.2.2.2.2.2.2.1], .cells [.int .i64 v.2.2.2.2.2.2.2.2.2.2.2.2.2.2.2.2.2.2.2.2.1, .int .i64 v.2.2.2.2.2.2.2.2.2.2.2.2.2.2.2.2.2.2.2.2.2]]⟩
def crest_Of_r13 (C : crest_Of_C) (v : crest_Of_Y12) : Dt crest_Of_Y13 := (Dt.bnd (C.2.2.1 ((v.2.2.2.2.2.2.1, v.2.2.2.2.2.2.2.1, v.2.2.2.2.2.2.2.2.1, ()), (v.2.2.2.2.2.2.2.2.2.2.2.2.2.2.2.1, v.2.2.2.2.2.2.2.2.2.2.2.2.2.2.2.2.1, v.2.2.2.2.2.2.2.2.2.2.2.2.2.2.2.2.2, ()), (v.2.2.2.2.1, v.2.2.2.2.2.1, ()), ())) fun r1 => (Dt.ret (r1.2.2.1, r1.2.2.2, v.1, v.2.1, v.2.2.1, v.2.2.2.1, v.2.2.2.2.1, v.2.2.2.2.2.1, v.2.2.2.2.2.2.1, v.2.2.2.2.2.2.2.1, v.2.2.2.2.2.2.2.2.1, v.2.2.2.2.2.2.2.2.2.1, v.2.2.2.2.2.2.2.2.2.2.1, v.2.2.2.2.2.2.2.2.2.2.2.1, v.2.2.2.2.2.2.2.2.2.2.2.2.1, v.2.2.2.2.2.2.2.2.2.2.2.2.2.1, v.2.2.2.2.2.2.2.2.2.2.2.2.2.2.1, v.2.2.2.2.2.2.2.2.2.2.2.2.2.2.2.1, v.2.2.2.2.2.2.2.2.2.2.2.2.2.2.2.2.1, v.2.2.2.2.2.2.2.2.2.2.2.2.2.2.2.2.2, r1.1, r1.2.1)))
theorem crest_Of_g13 (C : crest_Of_C) (v : crest_Of_Y12) : treg tysT (orc (crest_Of_tab C)) 101 (regO (bodyOf f14) 13) false [(2, (.box [.val Riii])), (3, .any), (8, .any), (10, (.own Riii)), (11, .any), (12, .any), (14, .any), (15, .any), (16, .any), (17, .any), (47, (.val Riii)), (48, .any), (49, .any)] (crest_Of_S12 v) some = (crest_Of_r13 C v).eval fun y => some (crest_Of_S13 y) := by kernel_rfl
abbrev crest_Of_Y14 : Type := List Diii × Int × Int × Bool × List Diii × Int × Int × Int × Int × Int × List Diii × Int × Int × Int × Int × Int × Int × Int × Int × Int × Int
def crest_Of_S14 (v : crest_Of_Y14) : St := ⟨[(2, .ptr 0 0), (3, .ptr 1 0), (8, .ptr 2 0), (10, .rs 3), (11, .ptr 4 0), (12, .ptr 5 0), (14, .ptr 6 0), (15, .ptr 7 0), (47, .fz Riii v.1), (48, .int .i64 v.2.1), (49, .int .i64 v.2.2.1), (66, .bool v.2.2.2.1)], [.cells [.fz Riii v.2.2.2.2.1], .cells [.int .i64 v.2.2.2.2.2.1, .int .i64 v.2.2.2.2.2.2.1], .cells [.int .i64 v.2.2.2.2.2.2.2.1, .int .i64 v.2.2.2.2.2.2.2.2.1, .int .i64 v.2.2.2.2.2.2.2.2.2.1], .rows Riii v.2.2.2.2.2.2.2.2.2.2.1, .cells [.int .i64 v.2.2.2.2.2.2.2.2.2.2.2.1, .int .i64 v.2.2.2.2.2.2.2.2.2.2.2.2.1, .int .i64 v.2.2.2.2.2.2.2.2.2.2.2.2.2.1], .cells [.int .i64 v.2.2.2.2.2.2.2.2.2.2.2.2.2.2.1, .int .i64 v.2.2.2.2.2.2.2.2.2.2.2.2.2.2.2.1], .cells [.int .i64 v.2.2.2.2.2.2.2.2.2.2.2.2.2.2.2.2.1, .int .i64 v.2.2.2.2.2.2.2.2.2.2.2.2.2.2.2.2.2.1, .int .i64 v.2.2.2.2.2.2.2.2.2.2.2.2.2.2.2.2.2.2.1], .cells [.int .i64 v.2.2.2.2.2.2.2.2.2.2.2.2.2.2.2.2.2.2.2.1, .int .i64 v.2.2.2.2.2.2.2.2.2.2.2.2.2.2.2.2.2.2.2.2]]⟩
def crest_Of_r14 (C : crest_Of_C) (v : crest_Of_Y13) : Dt crest_Of_Y14 := (Dt.ite (v.2.1 != (0:Int)) (Dt.ret (v.2.2.1, v.2.2.2.1, v.2.2.2.2.1, true, v.2.2.2.2.2.1, v.2.2.2.2.2.2.1, v.2.2.2.2.2.2.2.1, v.2.2.2.2.2.2.2.2.1, v.2.2.2.2.2.2.2.2.2.1, v.2.2.2.2.2.2.2.2.2.2.1, v.2.2.2.2.2.2.2.2.2.2.2.1, v.2.2.2.2.2.2.2.2.2.2.2.2.1, v.2.2.2.2.2.2.2.2.2.2.2.2.2.1, v.2.2.2.2.2.2.2.2.2.2.2.2.2.2.1, v.2.2.2.2.2.2.2.2.2.2.2.2.2.2.2.1, v.2.2.2.2.2.2.2.2.2.2.2.2.2.2.2.2.1, v.2.2.2.2.2.2.2.2.2.2.2.2.2.2.2.2.2.1, v.2.2.2.2.2.2.2.2.2.2.2.2.2.2.2.2.2.2.1, v.2.2.2.2.2.2.2.2.2.2.2.2.2.2.2.2.2.2.2.1, v.2.2.2.2.2.2.2.2.2.2.2.2.2.2.2.2.2.2.2.2.1, v.2.2.2.2.2.2.2.2.2.2.2.2.2.2.2.2.2.2.2.2.2)) (Dt.ret (v.2.2.1, v.2.2.2.1, v.2.2.2.2.1, (!v.1), v.2.2.2.2.2.1, v.2.2.2.2.2.2.1, v.2.2.2.2.2.2.2.1, v.2.2.2.2.2.2.2.2.1, v.2.2.2.2.2.2.2.2.2.1, v.2.2.2.2.2.2.2.2.2.2.1, v.2.2.2.2.2.2.2.2.2.2.2.1, v.2.2.2.2.2.2.2.2.2.2.2.2.1, v.2.2.2.2.2.2.2.2.2.2.2.2.2.1, v.2.2.2.2.2.2.2.2.2.2.2.2.2.2.1, v.2.2.2.2.2.2.2.2.2.2.2.2.2.2.2.1, v.2.2.2.2.2.2.2.2.2.2.2.2.2.2.2.2.1, v.2.2.2.2.2.2.2.2.2.2.2.2.2.2.2.2.2.1, v.2.2.2.2.2.2.2.2.2.2.2.2.2.2.2.2.2.2.1, v.2.2.2.2.2.2.2.2.2.2.2.2.2.2.2.2.2.2.2.1, v.2.2.2.2.2.2.2.2.2.2.2.2.2.2.2.2.2.2.2.2.1, v.2.2.2.2.2.2.2.2.2.2.2.2.2.2.2.2.2.2.2.2.2)))
theorem crest_Of_g14 (C : crest_Of_C) (v : crest_Of_Y13) : treg tysT (orc (crest_Of_tab C)) 101 (regO (bodyOf f14) 14) false [(2, (.box [.val Riii])), (3, .any), (8, .any), (10, (.own Riii)), (11, .any), (12, .any), (14, .any), (15, .any), (47, (.val Riii)), (48, .any), (49, .any), (66, .any)] (crest_Of_S13 v) some = (crest_Of_r14 C v).eval fun y => some (crest_Of_S14 y) := by kernel_rfl
def crest_Of_r24 (C : crest_Of_C) (v : crest_Of_Y10) : Dt crest_Of_Y10 := (Dt.ret (v.1, v.2.1, (IntKind.wrap .i64 (v.2.2.1 + (1:Int))), v.2.2.2.1, v.2.2.2.2.1, v.2.2.2.2.2.1, v.2.2.2.2.2.2.1, v.2.2.2.2.2.2.2.1, v.2.2.2.2.2.2.2.2.1, v.2.2.2.2.2.2.2.2.2.1, v.2.2.2.2.2.2.2.2.2.2.1, v.2.2.2.2.2.2.2.2.2.2.2.1, v.2.2.2.2.2.2.2.2.2.2.2.2.1, v.2.2.2.2.2.2.2.2.2.2.2.2.2.1, v.2.2.2.2.2.2.2.2.2.2.2.2.2.2))
theorem crest_Of_g24 (C : crest_Of_C) (v : crest_Of_Y10) : treg tysT (orc (crest_Of_tab C)) 101 (regO (bodyOf f14) 24) false [(2, (.box [.val Riii])), (3, .any), (8, .any), (10, (.own Riii)), (11, .any), (12, .any), (47, (.val Riii)), (48, .any), (49, .any)] (crest_Of_S10 v) some = (crest_Of_r24 C v).eval fun y => some (crest_Of_S10 y) := by kernel_rfl
def crest_Of_J3  (d : Nat) (self1 : (List Diii × Int × Int × Int × Int × Int × List Diii) → Option crest_Of_R) (self2 : (List Diii × Int × Int × List Diii × Int × Int × Int × Int × Int × List Diii × Int × Int × Int × Int × Int) → Option crest_Of_R) (z : List Diii × Int × Int × List Diii × Int × Int × Int × Int × Int × List Diii × Int × Int × Int × Int × Int) : Option (crest_Of_R) :=
  (crest_Of_r24 (crest_Of_K d) z).eval fun y24 =>
  self2 y24
abbrev crest_Of_Y15 : Type := Int × List Diii × Int × Int × List Diii × Int × Int × Int × Int × Int × List Diii × Int × Int × Int × Int × Int × Int × Int × Int × Int × Int
def crest_Of_S15 (v : crest_Of_Y15) : St := ⟨[(2, .ptr 0 0), (3, .ptr 1 0), (8, .ptr 2 0), (10, .rs 3), (11, .ptr 4 0), (12, .ptr 5 0), (14, .ptr 6 0), (15, .ptr 7 0), (18, .int .i64 v.1), (47, .fz Riii v.2.1), (48, .int .i64 v.2.2.1), (49, .int .i64 v.2.2.2.1)], [.cells [.fz Riii v.2.2.2.2.1], .cells [.int .i64 v.2.2.2.2.2.1, .int .i64 v.2.2.2.2.2.2.1], .cells [.int .i64 v.2.2.2.2.2.2.2.1, .int .i64 v.2.2.2.2.2.2.2.2.1, .int .i64 v.2.2.2.2.2.2.2.2.2.1], .rows Riii v.2.2.2.2.2.2.2.2.2.2.1, .cells [.int .i64 v.2.2.2.2.2.2.2.2.2.2.2.1, .int .i64 v.2.2.2.2.2.2.2.2.2.2.2.2.1, .int .i64 v.2.2.2.2.2.2.2.2.2.2.2.2.2.1], .cells [.int .i64 v.2.2.2.2.2.2.2.2.2.2.2.2.2.2.1, .int .i64 v.2.2.2.2.2.2.2.2.2.2.2.2.2.2.2.1], .cells [.int .i64 v.2.2.2.2.2.2.2.2.2.2.2.2.2.2.2.2.1, .int .i64 v.2.2.2.2.2.2.2.2.2.2.2.2.2.2.2.2.2.1, .int .i64 v.2.2.2.2.2.2.2.2.2.2.2.2.2.2.2.2.2.2.1], .cells [.int .i64 v.2.2.2.2.2.2.2.2.2.2.2.2.2.2.2.2.2.2.2.1, .int .i64 v.2.2.2.2.2.2.2.2.2.2.2.2.2.2.2.2.2.2.2.2]]⟩
def crest_Of_r15 (C : crest_Of_C) (v : crest_Of_Y14) : Dt crest_Of_Y15 := (Dt.ret ((-1:Int), v.1, v.2.1, v.2.2.1, v.2.2.2.2.1, v.2.2.2.2.2.1, v.2.2.2.2.2.2.1, v.2.2.2.2.2.2.2.1, v.2.2.2.2.2.2.2.2.1, v.2.2.2.2.2.2.2.2.2.1, v.2.2.2.2.2.2.2.2.2.2.1, v.2.2.2.2.2.2.2.2.2.2.2.1, v.2.2.2.2.2.2.2.2.2.2.2.2.1, v.2.2.2.2.2.2.2.2.2.2.2.2.2.1, v.2.2.2.2.2.2.2.2.2.2.2.2.2.2.1, v.2.2.2.2.2.2.2.2.2.2.2.2.2.2.2.1, v.2.2.2.2.2.2.2.2.2.2.2.2.2.2.2.2.1, v.2.2.2.2.2.2.2.2.2.2.2.2.2.2.2.2.2.1, v.2.2.2.2.2.2.2.2.2.2.2.2.2.2.2.2.2.2.1, v.2.2.2.2.2.2.2.2.2.2.2.2.2.2.2.2.2.2.2.1, v.2.2.2.2.2.2.2.2.2.2.2.2.2.2.2.2.2.2.2.2))
theorem crest_Of_g15 (C : crest_Of_C) (v : crest_Of_Y14) : treg tysT (orc (crest_Of_tab C)) 101 (regO (bodyOf f14) 15) false [(2, (.box [.val Riii])), (3, .any), (8, .any), (10, (.own Riii)), (11, .any), (12, .any), (14, .any), (15, .any), (18, .any), (47, (.val Riii)), (48, .any), (49, .any)] (crest_Of_S14 v) some = (crest_Of_r15 C v).eval fun y => some (crest_Of_S15 y) := by kernel_rfl
abbrev crest_Of_Y16 : Type := Int × List Diii × Int × Int × Bool × List Diii × Int × Int × Int × Int × Int × List Diii × Int × Int × Int × Int × Int × Int × Int × Int × Int × Int
def crest_Of_S16 (v : crest_Of_Y16) : St := ⟨[(2, .ptr 0 0), (3, .ptr 1 0), (8, .ptr 2 0), (10, .rs 3), (11, .ptr 4 0), (12, .ptr 5 0), (14, .ptr 6 0), (15, .ptr 7 0), (18, .int .i64 v.1), (47, .fz Riii v.2.1), (48, .int .i64 v.2.2.1), (49, .int .i64 v.2.2.2.1), (69, .bool v.2.2.2.2.1)], [.cells [.fz Riii v.2.2.2.2.2.1], .cells [.int .i64 v.2.2.2.2.2.2.1, .int .i64 v.2.2.2.2.2.2.2.1], .cells [.int .i64 v.2.2.2.2.2.2.2.2.1, .int .i64 v.2.2.2.2.2.2.2.2.2.1, .int .i64 v.2.2.2.2.2.2.2.2.2.2.1], .rows Riii v.2.2.2.2.2.2.2.2.2.2.2.1, .cells [.int .i64 v.2.2.2.2.2.2.2.2.2.2.2.2.1, .int .i64 v.2.2.2.2.2.2.2.2.2.2.2.2.2.1, .int .i64 v.2.2.2.2.2.2.2.2.2.2.2.2.2.2.1], .cells [.int .i64 v.2.2.2.2.2.2.2.2.2.2.2.2.2.2.2.1, .int .i64 v.2.2.2.2.2.2.2.2.2.2.2.2.2.2.2.2.1], .cells [.int .i64 v.2.2.2.2.2.2.2.2.2.2.2.2.2.2.2.2.2.1, .int .i64 v.2.2.2.2.2.2.2.2.2.2.2.2.2.2.2.2.2.2.1, .int .i64 v.2.2.2.2.2.2.2.2.2.2.2.2.2.2.2.2.2.2.2.1], .cells [.int .i64 v.2.2.2.2.2.2.2.2.2.2.2.2.2.2.2.2.2.2.2.2.1, .int .i64 v.2.2.2.2.2.2.2.2.2.2.2.2.2.2.2.2.2.2.2.2.2]]⟩
def crest_Of_r16 (C : crest_Of_C) (v : crest_Of_Y15) : Dt crest_Of_Y16 := (Dt.ret (v.1, v.2.1, v.2.2.1, v.2.2.2.1, (decide (v.2.2.2.2.2.2.2.2.2.2.2.2.2.2.2.1 > (0:Int))), v.2.2.2.2.1, v.2.2.2.2.2.1, v.2.2.2.2.2.2.1, v.2.2.2.2.2.2.2.1, v.2.2.2.2.2.2.2.2.1, v.2.2.2.2.2.2.2.2.2.1, v.2.2.2.2.2.2.2.2.2.2.1, v.2.2.2.2.2.2.2.2.2.2.2.1, v.2.2.2.2.2.2.2.2.2.2.2.2.1, v.2.2.2.2.2.2.2.2.2.2.2.2.2.1, v.2.2.2.2.2.2.2.2.2.2.2.2.2.2.1, v.2.2.2.2.2.2.2.2.2.2.2.2.2.2.2.1, v.2.2.2.2.2.2.2.2.2.2.2.2.2.2.2.2.1, v.2.2.2.2.2.2.2.2.2.2.2.2.2.2.2.2.2.1, v.2.2.2.2.2.2.2.2.2.2.2.2.2.2.2.2.2.2.1, v.2.2.2.2.2.2.2.2.2.2.2.2.2.2.2.2.2.2.2.1, v.2.2.2.2.2.2.2.2.2.2.2.2.2.2.2.2.2.2.2.2))
theorem crest_Of_g16 (C : crest_Of_C) (v : crest_Of_Y15) : treg tysT (orc (crest_Of_tab C)) 101 (regO (bodyOf f14) 16) false [(2, (.box [.val Riii])), (3, .any), (8, .any), (10, (.own Riii)), (11, .any), (12, .any), (14, .any), (15, .any), (18, .any), (47, (.val Riii)), (48, .any), (49, .any), (69, .any)] (crest_Of_S15 v) some = (crest_Of_r16 C v).eval fun y => some (crest_Of_S16 y) := by kernel_rfl
def crest_Of_r17 (C : crest_Of_C) (v : crest_Of_Y16) : Dt crest_Of_Y15 := (Dt.bnd (C.2.2.2.1 ((v.2.2.2.2.2.2.2.2.2.2.2.2.2.2.2.2.2.2.2.2.1, v.2.2.2.2.2.2.2.2.2.2.2.2.2.2.2.2.2.2.2.2.2, ()), (v.2.2.2.2.2.2.2.2.2.2.2.2.2.2.2.1, v.2.2.2.2.2.2.2.2.2.2.2.2.2.2.2.2.1, ()), ())) fun r1 => (Dt.ret (r1, v.2.1, v.2.2.1, v.2.2.2.1, v.2.2.2.2.2.1, v.2.2.2.2.2.2.1, v.2.2.2.2.2.2.2.1, v.2.2.2.2.2.2.2.2.1, v.2.2.2.2.2.2.2.2.2.1, v.2.2.2.2.2.2.2.2.2.2.1, v.2.2.2.2.2.2.2.2.2.2.2.1, v.2.2.2.2.2.2.2.2.2.2.2.2.1, v.2.2.2.2.2.2.2.2.2.2.2.2.2.1, v.2.2.2.2.2.2.2.2.2.2.2.2.2.2.1, v.2.2.2.2.2.2.2.2.2.2.2.2.2.2.2.1, v.2.2.2.2.2.2.2.2.2.2.2.2.2.2.2.2.1, v.2.2.2.2.2.2.2.2.2.2.2.2.2.2.2.2.2.1, v.2.2.2.2.2.2.2.2.2.2.2.2.2.2.2.2.2.2.1, v.2.2.2.2.2.2.2.2.2.2.2.2.2.2.2.2.2.2.2.1, v.2.2.2.2.2.2.2.2.2.2.2.2.2.2.2.2.2.2.2.2.1, v.2.2.2.2.2.2.2.2.2.2.2.2.2.2.2.2.2.2.2.2.2)))
theorem crest_Of_g17 (C : crest_Of_C) (v : crest_Of_Y16) : treg tysT (orc (crest_Of_tab C)) 101 (regO (bodyOf f14) 17) false [(2, (.box [.val Riii])), (3, .any), (8, .any), (10, (.own Riii)), (11, .any), (12, .any), (14, .any), (15, .any), (18, .any), (47, (.val Riii)), (48, .any), (49, .any)] (crest_Of_S16 v) some = (crest_Of_r17 C v).eval fun y => some (crest_Of_S15 y) := by kernel_rfl
abbrev crest_Of_Y18 : Type := Int × List Diii × Int × Int × Bool × List Diii × Int × Int × Int × Int × Int × List Diii × Int × Int × Int × Int × Int × Int × Int × Int × Int × Int
def crest_Of_S18 (v : crest_Of_Y18) : St := ⟨[(2, .ptr 0 0), (3, .ptr 1 0), (8, .ptr 2 0), (10, .rs 3), (11, .ptr 4 0), (12, .ptr 5 0), (14, .ptr 6 0), (15, .ptr 7 0), (18, .int .i64 v.1), (47, .fz Riii v.2.1), (48, .int .i64 v.2.2.1), (49, .int .i64 v.2.2.2.1), (74, .bool v.2.2.2.2.1)], [.cells [.fz Riii v.2.2.2.2.2.1], .cells [.int .i64 v.2.2.2.2.2.2.1, .int .i64 v.2.2.2.2.2.2.2.1], .cells [.int .i64 v.2.2.2.2.2.2.2.2.1, .int .i64 v.2.2.2.2.2.2.2.2.2.1, .int .i64 v.2.2.2.2.2.2.2.2.2.2.1], .rows Riii v.2.2.2.2.2.2.2.2.2.2.2.1, .cells [.int .i64 v.2.2.2.2.2.2.2.2.2.2.2.2.1, .int .i64 v.2.2.2.2.2.2.2.2.2.2.2.2.2.1, .int .i64 v.2.2.2.2.2.2.2.2.2.2.2.2.2.2.1], .cells [.int .i64 v.2.2.2.2.2.2.2.2.2.2.2.2.2.2.2.1, .int .i64 v.2.2.2.2.2.2.2.2.2.2.2.2.2.2.2.2.1], .cells [.int .i64 v.2.2.2.2.2.2.2.2.2.2.2.2.2.2.2.2.2.1, .int .i64 v.2.2.2.2.2.2.2.2.2.2.2.2.2.2.2.2.2.2.1, .int .i64 v.2.2.2.2.2.2.2.2.2.2.2.2.2.2.2.2.2.2.2.1], .cells [.int .i64 v.2.2.2.2.2.2.2.2.2.2.2.2.2.2.2.2.2.2.2.2.1, .int .i64 v.2.2.2.2.2.2.2.2.2.2.2.2.2.2.2.2.2.2.2.2.2]]⟩
def crest_Of_r18 (C : crest_Of_C) (v : crest_Of_Y15) : Dt crest_Of_Y18 := (Dt.ret (v.1, v.2.1, v.2.2.1, v.2.2.2.1, (v.1 == (0:Int)), v.2.2.2.2.1, v.2.2.2.2.2.1, v.2.2.2.2.2.2.1, v.2.2.2.2.2.2.2.1, v.2.2.2.2.2.2.2.2.1, v.2.2.2.2.2.2.2.2.2.1, v.2.2.2.2.2.2.2.2.2.2.1, v.2.2.2.2.2.2.2.2.2.2.2.1, v.2.2.2.2.2.2.2.2.2.2.2.2.1, v.2.2.2.2.2.2.2.2.2.2.2.2.2.1, v.2.2.2.2.2.2.2.2.2.2.2.2.2.2.1, v.2.2.2.2.2.2.2.2.2.2.2.2.2.2.2.1, v.2.2.2.2.2.2.2.2.2.2.2.2.2.2.2.2.1, v.2.2.2.2.2.2.2.2.2.2.2.2.2.2.2.2.2.1, v.2.2.2.2.2.2.2.2.2.2.2.2.2.2.2.2.2.2.1, v.2.2.2.2.2.2.2.2.2.2.2.2.2.2.2.2.2.2.2.1, v.2.2.2.2.2.2.2.2.2.2.2.2.2.2.2.2.2.2.2.2))
theorem crest_Of_g18 (C : crest_Of_C) (v : crest_Of_Y15) : treg tysT (orc (crest_Of_tab C)) 101 (regO (bodyOf f14) 18) false [(2, (.box [.val Riii])), (3, .any), (8, .any), (10, (.own Riii)), (11, .any), (12, .any), (14, .any), (15, .any), (18, .any), (47, (.val Riii)), (48, .any), (49, .any), (74, .any)] (crest_Of_S15 v) some = (crest_Of_r18 C v).eval fun y => some (crest_Of_S18 y) := by kernel_rfl
abbrev crest_Of_Y19 : Type := Int × Bool × List Diii × Int × Int × List Diii × Int × Int × Int × Int × Int × List Diii × Int × Int × Int × Int × Int × Int × Int × Int × Int × Int
def crest_Of_S19 (v : crest_Of_Y19) : St := ⟨[(2, .ptr 0 0), (3, .ptr 1 0), (8, .ptr 2 0), (10, .rs 3), (11, .ptr 4 0), (12, .ptr 5 0), (14, .ptr 6 0), (15, .ptr 7 0), (18, .int .i64 v.1), (19, .bool v.2.1), (47, .fz Riii v.2.2.1), (48, .int .i64 v.2.2.2.1), (49, .int .i64 v.2.2.2.2.1)], [.cells [.fz Riii v.2.2.2.2.2.1], .cells [.int .i64 v.2.2.2.2.2.2.1, .int .i64 v.2.2.2.2.2.2.2.1], .cells [.int .i64 v.2.2.2.2.2.2.2.2.1, .int .i64 v.2.2.2.2.2.2.2.2.2.1, .int .i64 v.2.2.2.2.2.2.2.2.2.2.1], .rows Riii v.2.2.2.2.2.2.2.2.2.2.2.1, .cells [.int .i64 v.2.2.2.2.2.2.2.2.2.2.2.2.1, .int .i64 v.2.2.2.2.2.2.2.2.2.2.2.2.2.1, .int .i64 v.2.2.2.2.2.2.2.2.2.2.2.2.2.2.1], .cells [.int .i64 v.2.2.2.2.2.2.2.2.2.2.2.2.2.2.2.1, .int .i64 v.2.2.2.2.2.2.2.2.2.2.2.2.2.2.2.2.1], .cells [.int .i64 v.2.2.2.2.2.2.2.2.2.2.2.2.2.2.2.2.2.1, .int .i64 v.2.2.2.2.2.2.2.2.2.2.2.2.2.2.2.2.2.2.1, .int .i64 v.2.2.2.2.2.2.2.2.2.2.2.2.2.2.2.2.2.2.2.1], .cells [.int .i64 v.2.2.2.2.2.2.2.2.2.2.2.2.2.2.2.2.2.2.2.2.1, .int .i64 v.2.2.2.2.2.2.2.2.2.2.2.2.2.2.2.2.2.2.2.2.2]]⟩
def crest_Of_r19 (C : crest_Of_C) (v : crest_Of_Y18) : Dt crest_Of_Y19 := (Dt.bnd (C.2.2.2.2.1 ((v.2.2.2.2.2.2.2.2.2.2.2.2.2.2.2.2.2.1, v.2.2.2.2.2.2.2.2.2.2.2.2.2.2.2.2.2.2.1, v.2.2.2.2.2.2.2.2.2.2.2.2.2.2.2.2.2.2.2.1, ()), (v.2.2.2.2.2.2.2.2.2.2.2.2.1, v.2.2.2.2.2.2.2.2.2.2.2.2.2.1, v.2.2.2.2.2.2.2.2.2.2.2.2.2.2.1, ()), (v.2.2.2.2.2.2.2.2.2.2.2.2.2.2.2.2.2.2.2.2.1, v.2.2.2.2.2.2.2.2.2.2.2.2.2.2.2.2.2.2.2.2.2, ()), ())) fun r1 => (Dt.ret (v.1, r1.1, v.2.1, v.2.2.1, v.2.2.2.1, v.2.2.2.2.2.1, v.2.2.2.2.2.2.1, v.2.2.2.2.2.2.2.1, v.2.2.2.2.2.2.2.2.1, v.2.2.2.2.2.2.2.2.2.1, v.2.2.2.2.2.2.2.2.2.2.1, v.2.2.2.2.2.2.2.2.2.2.2.1, v.2.2.2.2.2.2.2.2.2.2.2.2.1, v.2.2.2.2.2.2.2.2.2.2.2.2.2.1, v.2.2.2.2.2.2.2.2.2.2.2.2.2.2.1, v.2.2.2.2.2.2.2.2.2.2.2.2.2.2.2.1, v.2.2.2.2.2.2.2.2.2.2.2.2.2.2.2.2.1, v.2.2.2.2.2.2.2.2.2.2.2.2.2.2.2.2.2.1, v.2.2.2.2.2.2.2.2.2.2.2.2.2.2.2.2.2.2.1, v.2.2.2.2.2.2.2.2.2.2.2.2.2.2.2.2.2.2.2.1, v.2.2.2.2.2.2.2.2.2.2.2.2.2.2.2.2.2.2.2.2.1, v.2.2.2.2.2.2.2.2.2.2.2.2.2.2.2.2.2.2.2.2.2)))
theorem crest_Of_g19 (C : crest_Of_C) (v : crest_Of_Y18) : treg tysT (orc (crest_Of_tab C)) 101 (regO (bodyOf f14) 19) false [(2, (.box [.val Riii])), (3, .any), (8, .any), (10, (.own Riii)), (11, .any), (12, .any), (14, .any), (15, .any), (18, .any), (19, .any), (47, (.val Riii)), (48, .any), (49, .any)] (crest_Of_S18 v) some = (crest_Of_r19 C v).eval fun y => some (crest_Of_S19 y) := by kernel_rfl
abbrev crest_Of_Y20 : Type := Int × List Diii × Int × Int × Bool × List Diii × Int × Int × Int × Int × Int × List Diii × Int × Int × Int × Int × Int × Int × Int × Int × Int × Int
def crest_Of_S20 (v : crest_Of_Y20) : St := ⟨[(2, .ptr 0 0), (3, .ptr 1 0), (8, .ptr 2 0), (10, .rs 3), (11, .ptr 4 0), (12, .ptr 5 0), (14, .ptr 6 0), (15, .ptr 7 0), (18, .int .i64 v.1), (47, .fz Riii v.2.1), (48, .int .i64 v.2.2.1), (49, .int .i64 v.2.2.2.1), (82, .bool v.2.2.2.2.1)], [.cells [.fz Riii v.2.2.2.2.2.1], .cells [.int .i64 v.2.2.2.2.2.2.1, .int .i64 v.2.2.2.2.2.2.2.1], .cells [.int .i64 v.2.2.2.2.2.2.2.2.1, .int .i64 v.2.2.2.2.2.2.2.2.2.1, .int .i64 v.2.2.2.2.2.2.2.2.2.2.1], .rows Riii v.2.2.2.2.2.2.2.2.2.2.2.1, .cells [.int .i64 v.2.2.2.2.2.2.2.2.2.2.2.2.1, .int .i64 v.2.2.2.2.2.2.2.2.2.2.2.2.2.1, .int .i64 v.2.2.2.2.2.2.2.2.2.2.2.2.2.2.1], .cells [.int .i64 v.2.2.2.2.2.2.2.2.2.2.2.2.2.2.2.1, .int .i64 v.2.2.2.2.2.2.2.2.2.2.2.2.2.2.2.2.1], .cells [.int .i64 v.2.2.2.2.2.2.2.2.2.2.2.2.2.2.2.2.2.1, .int .i64 v.2.2.2.2.2.2.2.2.2.2.2.2.2.2.2.2.2.2.1, .int .i64 v.2.2.2.2.2.2.2.2.2.2.2.2.2.2.2.2.2.2.2.1], .cells [.int .i64 v.2.2.2.2.2.2.2.2.2.2.2.2.2.2.2.2.2.2.2.2.1, .int .i64 v.2.2.2.2.2.2.2.2.2.2.2.2.2.2.2.2.2.2.2.2.2]]⟩
def crest_Of_r20 (C : crest_Of_C) (v : crest_Of_Y19) : Dt crest_Of_Y20 := (Dt.ret (v.1, v.2.2.1, v.2.2.2.1, v.2.2.2.2.1, v.2.1, v.2.2.2.2.2.1, v.2.2.2.2.2.2.1, v.2.2.2.2.2.2.2.1, v.2.2.2.2.2.2.2.2.1, v.2.2.2.2.2.2.2.2.2.1, v.2.2.2.2.2.2.2.2.2.2.1, v.2.2.2.2.2.2.2.2.2.2.2.1, v.2.2.2.2.2.2.2.2.2.2.2.2.1, v.2.2.2.2.2.2.2.2.2.2.2.2.2.1, v.2.2.2.2.2.2.2.2.2.2.2.2.2.2.1, v.2.2.2.2.2.2.2.2.2.2.2.2.2.2.2.1, v.2.2.2.2.2.2.2.2.2.2.2.2.2.2.2.2.1, v.2.2.2.2.2.2.2.2.2.2.2.2.2.2.2.2.2.1, v.2.2.2.2.2.2.2.2.2.2.2.2.2.2.2.2.2.2.1, v.2.2.2.2.2.2.2.2.2.2.2.2.2.2.2.2.2.2.2.1, v.2.2.2.2.2.2.2.2.2.2.2.2.2.2.2.2.2.2.2.2.1, v.2.2.2.2.2.2.2.2.2.2.2.2.2.2.2.2.2.2.2.2.2))
theorem crest_Of_g20 (C : crest_Of_C) (v : crest_Of_Y19) : treg tysT (orc (crest_Of_tab C)) 101 (regO (bodyOf f14) 20) false [(2, (.box [.val Riii])), (3, .any), (8, .any), (10, (.own Riii)), (11, .any), (12, .any), (14, .any), (15, .any), (18, .any), (47, (.val Riii)), (48, .any), (49, .any), (82, .any)] (crest_Of_S19 v) some = (crest_Of_r20 C v).eval fun y => some (crest_Of_S20 y) := by kernel_rfl
def crest_Of_r21 (C : crest_Of_C) (v : crest_Of_Y20) : Dt crest_Of_Y15 := (Dt.ret ((-1:Int), v.2.1, v.2.2.1, v.2.2.2.1, v.2.2.2.2.2.1, v.2.2.2.2.2.2.1, v.2.2.2.2.2.2.2.1, v.2.2.2.2.2.2.2.2.1, v.2.2.2.2.2.2.2.2.2.1, v.2.2.2.2.2.2.2.2.2.2.1, v.2.2.2.2.2.2.2.2.2.2.2.1, v.2.2.2.2.2.2.2.2.2.2.2.2.1, v.2.2.2.2.2.2.2.2.2.2.2.2.2.1, v.2.2.2.2.2.2.2.2.2.2.2.2.2.2.1, v.2.2.2.2.2.2.2.2.2.2.2.2.2.2.2.1, v.2.2.2.2.2.2.2.2.2.2.2.2.2.2.2.2.1, v.2.2.2.2.2.2.2.2.2.2.2.2.2.2.2.2.2.1, v.2.2.2.2.2.2.2.2.2.2.2.2.2.2.2.2.2.2.1, v.2.2.2.2.2.2.2.2.2.2.2.2.2.2.2.2.2.2.2.1, v.2.2.2.2.2.2.2.2.2.2.2.2.2.2.2.2.2.2.2.2.1, v.2.2.2.2.2.2.2.2.2.2.2.2.2.2.2.2.2.2.2.2.2))
theorem crest_Of_g21 (C : crest_Of_C) (v : crest_Of_Y20) : treg tysT (orc (crest_Of_tab C)) 101 (regO (bodyOf f14) 21) false [(2, (.box [.val Riii])), (3, .any), (8, .any), (10, (.own Riii)), (11, .any), (12, .any), (14, .any), (15, .any), (18, .any), (47, (.val Riii)), (48, .any), (49, .any)] (crest_Of_S20 v) some = (crest_Of_r21 C v).eval fun y => some (crest_Of_S15 y) := by kernel_rfl
abbrev crest_Of_Y22 : Type := List Diii × Int × Int × Bool × List Diii × Int × Int × Int × Int × Int × List Diii × Int × Int × Int × Int × Int × Int × Int × Int × Int × Int
def crest_Of_S22 (v : crest_Of_Y22) : St := ⟨[(2, .ptr 0 0), (3, .ptr 1 0), (8, .ptr 2 0), (10, .rs 3), (11, .ptr 4 0), (12, .ptr 5 0), (14, .ptr 6 0), (15, .ptr 7 0), (47, .fz Riii v.1), (48, .int .i64 v.2.1), (49, .int .i64 v.2.2.1), (84, .bool v.2.2.2.1)], [.cells [.fz Riii v.2.2.2.2.1], .cells [.int .i64 v.2.2.2.2.2.1, .int .i64 v.2.2.2.2.2.2.1], .cells [.int .i64 v.2.2.2.2.2.2.2.1, .int .i64 v.2.2.2.2.2.2.2.2.1, .int .i64 v.2.2.2.2.2.2.2.2.2.1], .rows Riii v.2.2.2.2.2.2.2.2.2.2.1, .cells [.int .i64 v.2.2.2.2.2.2.2.2.2.2.2.1, .int .i64 v.2.2.2.2.2.2.2.2.2.2.2.2.1, .int .i64 v.2.2.2.2.2.2.2.2.2.2.2.2.2.1], .cells [.int .i64 v.2.2.2.2.2.2.2.2.2.2.2.2.2.2.1, .int .i64 v.2.2.2.2.2.2.2.2.2.2.2.2.2.2.2.1], .cells [.int .i64 v.2.2.2.2.2.2.2.2.2.2.2.2.2.2.2.2.1, .int .i64 v.2.2.2.2.2.2.2.2.2.2.2.2.2.2.2.2.2.1, .int .i64 v.2.2.2.2.2.2.2.2.2.2.2.2.2.2.2.2.2.2.1], .cells [.int .i64 v.2.2.2.2.2.2.2.2.2.2.2.2.2.2.2.2.2.2.2.1, .int .i64 v.2.2.2.2.2.2.2.2.2.2.2.2.2.2.2.2.2.2.2.2]]⟩
def crest_Of_r22 (C : crest_Of_C) (v : crest_Of_Y15) : Dt crest_Of_Y22 := (Dt.ret (v.2.1, v.2.2.1, v.2.2.2.1, (decide (v.1 < (0:Int))), v.2.2.2.2.1, v.2.2.2.2.2.1, v.2.2.2.2.2.2.1, v.2.2.2.2.2.2.2.1, v.2.2.2.2.2.2.2.2.1, v.2.2.2.2.2.2.2.2.2.1, v.2.2.2.2.2.2.2.2.2.2.1, v.2.2.2.2.2.2.2.2.2.2.2.1, v.2.2.2.2.2.2.2.2.2.2.2.2.1, v.2.2.2.2.2.2.2.2.2.2.2.2.2.1, v.2.2.2.2.2.2.2.2.2.2.2.2.2.2.1, v.2.2.2.2.2.2.2.2.2.2.2.2.2.2.2.1, v.2.2.2.2.2.2.2.2.2.2.2.2.2.2.2.2.1, v.2.2.2.2.2.2.2.2.2.2.2.2.2.2.2.2.2.1, v.2.2.2.2.2.2.2.2.2.2.2.2.2.2.2.2.2.2.1, v.2.2.2.2.2.2.2.2.2.2.2.2.2.2.2.2.2.2.2.1, v.2.2.2.2.2.2.2.2.2.2.2.2.2.2.2.2.2.2.2.2))
theorem crest_Of_g22 (C : crest_Of_C) (v : crest_Of_Y15) : treg tysT (orc (crest_Of_tab C)) 101 (regO (bodyOf f14) 22) false [(2, (.box [.val Riii])), (3, .any), (8, .any), (10, (.own Riii)), (11, .any), (12, .any), (14, .any), (15, .any), (47, (.val Riii)), (48, .any), (49, .any), (84, .any)] (crest_Of_S15 v) some = (crest_Of_r22 C v).eval fun y => some (crest_Of_S22 y) := by kernel_rfl
def crest_Of_r23 (C : crest_Of_C) (v : crest_Of_Y22) : Dt crest_Of_Y10 := (Dt.ret (v.1, v.2.1, v.2.2.1, v.2.2.2.2.1, v.2.2.2.2.2.1, v.2.2.2.2.2.2.1, v.2.2.2.2.2.2.2.1, v.2.2.2.2.2.2.2.2.1, v.2.2.2.2.2.2.2.2.2.1, v.2.2.2.2.2.2.2.2.2.2.1, v.2.2.2.2.2.2.2.2.2.2.2.2.2.2.2.2.1, v.2.2.2.2.2.2.2.2.2.2.2.2.2.2.2.2.2.1, v.2.2.2.2.2.2.2.2.2.2.2.2.2.2.2.2.2.2.1, v.2.2.2.2.2.2.2.2.2.2.2.2.2.2.2.2.2.2.2.1, v.2.2.2.2.2.2.2.2.2.2.2.2.2.2.2.2.2.2.2.2))
theorem crest_Of_g23 (C : crest_Of_C) (v : crest_Of_Y22) : treg tysT (orc (crest_Of_tab C)) 101 (regO (bodyOf f14) 23) true [(2, (.box [.val Riii])), (3, .any), (8, .any), (10, (.own Riii)), (11, .any), (12, .any), (47, (.val Riii)), (48, .any), (49, .any)] (crest_Of_S22 v) some = (crest_Of_r23 C v).eval fun y => some (crest_Of_S10 y) := by kernel_rfl
def crest_Of_J5  (d : Nat) (self1 : (List Diii × Int × Int × Int × Int × Int × List Diii) → Option crest_Of_R) (self2 : (List Diii × Int × Int × List Diii × Int × Int × Int × Int × Int × List Diii × Int × Int × Int × Int × Int) → Option crest_Of_R) (z : Int × List Diii × Int × Int × List Diii × Int × Int × Int × Int × Int × List Diii × Int × Int × Int × Int × Int × Int × Int × Int × Int × Int) : Option (crest_Of_R) :=
  (crest_Of_r22 (crest_Of_K d) z).eval fun y22 =>
  bif y22.2.2.2.1 then ((crest_Of_r23 (crest_Of_K d) y22).eval fun y23 =>
  crest_Of_J3 d self1 self2 y23) else (crest_Of_J3 d self1 self2 (y22.1, y22.2.1, y22.2.2.1, y22.2.2.2.2.1, y22.2.2.2.2.2.1, y22.2.2.2.2.2.2.1, y22.2.2.2.2.2.2.2.1, y22.2.2.2.2.2.2.2.2.1, y22.2.2.2.2.2.2.2.2.2.1, y22.2.2.2.2.2.2.2.2.2.2.1, y22.2.2.2.2.2.2.2.2.2.2.2.1, y22.2.2.2.2.2.2.2.2.2.2.2.2.1, y22.2.2.2.2.2.2.2.2.2.2.2.2.2.1, y22.2.2.2.2.2.2.2.2.2.2.2.2.2.2.1, y22.2.2.2.2.2.2.2.2.2.2.2.2.2.2.2.1))
def crest_Of_J4  (d : Nat) (self1 : (List Diii × Int × Int × Int × Int × Int × List Diii) → Option crest_Of_R) (self2 : (List Diii × Int × Int × List Diii × Int × Int × Int × Int × Int × List Diii × Int × Int × Int × Int × Int) → Option crest_Of_R) (z : Int × List Diii × Int × Int × List Diii × Int × Int × Int × Int × Int × List Diii × Int × Int × Int × Int × Int × Int × Int × Int × Int × Int) : Option (crest_Of_R) :=
  (crest_Of_r18 (crest_Of_K d) z).eval fun y18 =>
  bif y18.2.2.2.2.1 then ((crest_Of_r19 (crest_Of_K d) y18).eval fun y19 =>
  (crest_Of_r20 (crest_Of_K d) y19).eval fun y20 =>
  bif y20.2.2.2.2.1 then ((crest_Of_r21 (crest_Of_K d) y20).eval fun y21 =>
  crest_Of_J5 d self1 self2 y21) else (crest_Of_J5 d self1 self2 (y20.1, y20.2.1, y20.2.2.1, y20.2.2.2.1, y20.2.2.2.2.2.1, y20.2.2.2.2.2.2.1, y20.2.2.2.2.2.2.2.1, y20.2.2.2.2.2.2.2.2.1, y20.2.2.2.2.2.2.2.2.2.1, y20.2.2.2.2.2.2.2.2.2.2.1, y20.2.2.2.2.2.2.2.2.2.2.2.1, y20.2.2.2.2.2.2.2.2.2.2.2.2.1, y20.2.2.2.2.2.2.2.2.2.2.2.2.2.1, y20.2.2.2.2.2.2.2.2.2.2.2.2.2.2.1, y20.2.2.2.2.2.2.2.2.2.2.2.2.2.2.2.1, y20.2.2.2.2.2.2.2.2.2.2.2.2.2.2.2.2.1, y20.2.2.2.2.2.2.2.2.2.2.2.2.2.2.2.2.2.1, y20.2.2.2.2.2.2.2.2.2.2.2.2.2.2.2.2.2.2.1, y20.2.2.2.2.2.2.2.2.2.2.2.2.2.2.2.2.2.2.2.1, y20.2.2.2.2.2.2.2.2.2.2.2.2.2.2.2.2.2.2.2.2.1, y20.2.2.2.2.2.2.2.2.2.2.2.2.2.2.2.2.2.2.2.2.2))) else (crest_Of_J5 d self1 self2 (y18.1, y18.2.1, y18.2.2.1, y18.2.2.2.1, y18.2.2.2.2.2.1, y18.2.2.2.2.2.2.1, y18.2.2.2.2.2.2.2.1, y18.2.2.2.2.2.2.2.2.1, y18.2.2.2.2.2.2.2.2.2.1, y18.2.2.2.2.2.2.2.2.2.2.1, y18.2.2.2.2.2.2.2.2.2.2.2.1, y18.2.2.2.2.2.2.2.2.2.2.2.2.1, y18.2.2.2.2.2.2.2.2.2.2.2.2.2.1, y18.2.2.2.2.2.2.2.2.2.2.2.2.2.2.1, y18.2.2.2.2.2.2.2.2.2.2.2.2.2.2.2.1, y18.2.2.2.2.2.2.2.2.2.2.2.2.2.2.2.2.1, y18.2.2.2.2.2.2.2.2.2.2.2.2.2.2.2.2.2.1, y18.2.2.2.2.2.2.2.2.2.2.2.2.2.2.2.2.2.2.1, y18.2.2.2.2.2.2.2.2.2.2.2.2.2.2.2.2.2.2.2.1, y18.2.2.2.2.2.2.2.2.2.2.2.2.2.2.2.2.2.2.2.2.1, y18.2.2.2.2.2.2.2.2.2.2.2.2.2.2.2.2.2.2.2.2.2))
abbrev crest_Of_Y25 : Type := Bool × List Diii × Int × Int × Int × Int × Int × List Diii × Int × Int × Int × Int × Int
def crest_Of_S25 (v : crest_Of_Y25) : St := ⟨[(2, .ptr 0 0), (3, .ptr 1 0), (8, .ptr 2 0), (10, .rs 3), (11, .ptr 4 0), (12, .ptr 5 0), (90, .bool v.1)], [.cells [.fz Riii v.2.1], .cells [.int .i64 v.2.2.1, .int .i64 v.2.2.2.1], .cells [.int .i64 v.2.2.2.2.1, .int .i64 v.2.2.2.2.2.1, .int .i64 v.2.2.2.2.2.2.1], .rows Riii v.2.2.2.2.2.2.2.1, .cells [.int .i64 v.2.2.2.2.2.2.2.2.1, .int .i64 v.2.2.2.2.2.2.2.2.2.1, .int .i64 v.2.2.2.2.2.2.2.2.2.2.1], .cells [.int .i64 v.2.2.2.2.2.2.2.2.2.2.2.1, .int .i64 v.2.2.2.2.2.2.2.2.2.2.2.2]]⟩
def crest_Of_r25 (C : crest_Of_C) (v : crest_Of_Y11) : Dt crest_Of_Y25 := (Dt.ret ((v.2.2.2.2.2.2.2.2.2.2.2.2.2.2.2 == (0:Int)), v.2.2.2.2.1, v.2.2.2.2.2.1, v.2.2.2.2.2.2.1, v.2.2.2.2.2.2.2.1, v.2.2.2.2.2.2.2.2.1, v.2.2.2.2.2.2.2.2.2.1, v.2.2.2.2.2.2.2.2.2.2.1, v.2.2.2.2.2.2.2.2.2.2.2.1, v.2.2.2.2.2.2.2.2.2.2.2.2.1, v.2.2.2.2.2.2.2.2.2.2.2.2.2.1, v.2.2.2.2.2.2.2.2.2.2.2.2.2.2.1, v.2.2.2.2.2.2.2.2.2.2.2.2.2.2.2))
theorem crest_Of_g25 (C : crest_Of_C) (v : crest_Of_Y11) : treg tysT (orc (crest_Of_tab C)) 101 (regO (bodyOf f14) 25) false [(2, (.box [.val Riii])), (3, .any), (8, .any), (10, (.own Riii)), (11, .any), (12, .any), (90, .any)] (crest_Of_S11 v) some = (crest_Of_r25 C v).eval fun y => some (crest_Of_S25 y) := by kernel_rfl
def crest_Of_r26 (C : crest_Of_C) (v : crest_Of_Y25) : Dt crest_Of_Y3 := (Dt.ret ((0:Int), v.2.2.2.2.2.2.2.1))
theorem crest_Of_g26 (C : crest_Of_C) (v : crest_Of_Y25) : treg tysT (orc (crest_Of_tab C)) 101 (regO (bodyOf f14) 26) false [(4, (.own Riii)), (5, .any)] (crest_Of_S25 v) some = (crest_Of_r26 C v).eval fun y => some (crest_Of_S3 y) := by kernel_rfl
def crest_Of_r27 (C : crest_Of_C) (v : crest_Of_Y25) : Dt crest_Of_Y9 := (Dt.ret (v.2.1, v.2.2.2.2.2.2.2.2.2.2.2.1, v.2.2.2.2.2.2.2.2.2.2.2.2, v.2.2.2.2.2.2.2.2.1, v.2.2.2.2.2.2.2.2.2.1, v.2.2.2.2.2.2.2.2.2.2.1, v.2.2.2.2.2.2.2.1, v.2.2.2.2.2.2.2.2.1, v.2.2.2.2.2.2.2.2.2.1, v.2.2.2.2.2.2.2.2.2.2.1, v.2.2.2.2.2.2.2.2.2.2.2.1, v.2.2.2.2.2.2.2.2.2.2.2.2))
theorem crest_Of_g27 (C : crest_Of_C) (v : crest_Of_Y25) : treg tysT (orc (crest_Of_tab C)) 101 (regO (bodyOf f14) 27) true [(2, (.box [.val Riii])), (3, .any), (8, .any), (10, (.own Riii)), (11, .any), (12, .any)] (crest_Of_S25 v) some = (crest_Of_r27 C v).eval fun y => some (crest_Of_S9 y) := by kernel_rfl
def crest_Of_r28 (C : crest_Of_C) (v : crest_Of_Y9) : Dt crest_Of_Y7 := (Dt.ite (apB (List.length v.2.2.2.2.2.2.1) (List.length ([(v.2.2.2.2.2.2.2.2.2.2.1, v.2.2.2.2.2.2.2.2.2.2.2, v.2.2.2.2.2.2.2.1, ())] : List Diii))) (Dt.ret (v.1, v.2.1, v.2.2.1, v.2.2.2.1, v.2.2.2.2.1, v.2.2.2.2.2.1, (v.2.2.2.2.2.2.1 ++ ([(v.2.2.2.2.2.2.2.2.2.2.1, v.2.2.2.2.2.2.2.2.2.2.2, v.2.2.2.2.2.2.2.1, ())] : List Diii)))) Dt.fail)
theorem crest_Of_g28 (C : crest_Of_C) (v : crest_Of_Y9) : treg tysT (orc (crest_Of_tab C)) 101 (regO (bodyOf f14) 28) false [(2, (.box [.val Riii])), (3, .any), (8, .any), (10, (.own Riii))] (crest_Of_S9 v) some = (crest_Of_r28 C v).eval fun y => some (crest_Of_S7 y) := by kernel_rfl
def crest_Of_L2 (d : Nat) (self1 : (List Diii × Int × Int × Int × Int × Int × List Diii) → Option crest_Of_R) (self2 : (List Diii × Int × Int × List Diii × Int × Int × Int × Int × Int × List Diii × Int × Int × Int × Int × Int) → Option crest_Of_R) (x2 : List Diii × Int × Int × List Diii × Int × Int × Int × Int × Int × List Diii × Int × Int × Int × Int × Int) : Option crest_Of_R :=
  (crest_Of_r11 (crest_Of_K d) x2).eval fun y11 =>
  bif y11.2.2.2.1 then ((crest_Of_r12 (crest_Of_K d) y11).eval fun y12 =>
  (crest_Of_r13 (crest_Of_K d) y12).eval fun y13 =>
  (crest_Of_r14 (crest_Of_K d) y13).eval fun y14 =>
  bif y14.2.2.2.1 then (crest_Of_J3 d self1 self2 (y14.1, y14.2.1, y14.2.2.1, y14.2.2.2.2.1, y14.2.2.2.2.2.1, y14.2.2.2.2.2.2.1, y14.2.2.2.2.2.2.2.1, y14.2.2.2.2.2.2.2.2.1, y14.2.2.2.2.2.2.2.2.2.1, y14.2.2.2.2.2.2.2.2.2.2.1, y14.2.2.2.2.2.2.2.2.2.2.2.1, y14.2.2.2.2.2.2.2.2.2.2.2.2.1, y14.2.2.2.2.2.2.2.2.2.2.2.2.2.1, y14.2.2.2.2.2.2.2.2.2.2.2.2.2.2.1, y14.2.2.2.2.2.2.2.2.2.2.2.2.2.2.2.1)) else ((crest_Of_r15 (crest_Of_K d) y14).eval fun y15 =>
  (crest_Of_r16 (crest_Of_K d) y15).eval fun y16 =>
  bif y16.2.2.2.2.1 then ((crest_Of_r17 (crest_Of_K d) y16).eval fun y17 =>
  crest_Of_J4 d self1 self2 y17) else (crest_Of_J4 d self1 self2 (y16.1, y16.2.1, y16.2.2.1, y16.2.2.2.1, y16.2.2.2.2.2.1, y16.2.2.2.2.2.2.1, y16.2.2.2.2.2.2.2.1, y16.2.2.2.2.2.2.2.2.1, y16.2.2.2.2.2.2.2.2.2.1, y16.2.2.2.2.2.2.2.2.2.2.1, y16.2.2.2.2.2.2.2.2.2.2.2.1, y16.2.2.2.2.2.2.2.2.2.2.2.2.1, y16.2.2.2.2.2.2.2.2.2.2.2.2.2.1, y16.2.2.2.2.2.2.2.2.2.2.2.2.2.2.1, y16.2.2.2.2.2.2.2.2.2.2.2.2.2.2.2.1, y16.2.2.2.2.2.2.2.2.2.2.2.2.2.2.2.2.1, y16.2.2.2.2.2.2.2.2.2.2.2.2.2.2.2.2.2.1, y16.2.2.2.2.2.2.2.2.2.2.2.2.2.2.2.2.2.2.1, y16.2.2.2.2.2.2.2.2.2.2.2.2.2.2.2.2.2.2.2.1, y16.2.2.2.2.2.2.2.2.2.2.2.2.2.2.2.2.2.2.2.2.1, y16.2.2.2.2.2.2.2.2.2.2.2.2.2.2.2.2.2.2.2.2.2)))) else ((crest_Of_r25 (crest_Of_K d) y11).eval fun y25 =>
  bif y25.1 then ((crest_Of_r26 (crest_Of_K d) y25).eval fun y26 =>
  some (y26.2, y26.1)) else ((crest_Of_r27 (crest_Of_K d) y25).eval fun y27 =>
  (crest_Of_r28 (crest_Of_K d) y27).eval fun y28 =>
  self1 y28))
def crest_Of_L1 (d : Nat) (self1 : (List Diii × Int × Int × Int × Int × Int × List Diii) → Option crest_Of_R) (x1 : List Diii × Int × Int × Int × Int × Int × List Diii) : Option crest_Of_R :=
  (crest_Of_r8 (crest_Of_K d) x1).eval fun y8 =>
  (crest_Of_r9 (crest_Of_K d) y8).eval fun y9 =>
  (crest_Of_r10 (crest_Of_K d) y9).eval fun y10 =>
  iter (crest_Of_L2 d self1) d y10
def F_crest_Of (d : Nat) (x : crest_Of_X) : Option crest_Of_R :=
  (crest_Of_r0 (crest_Of_K d) (x.1.1, x.2.1.1, x.2.1.2.1)).eval fun y0 =>
  (crest_Of_r1 (crest_Of_K d) y0).eval fun y1 =>
  (crest_Of_r2 (crest_Of_K d) y1).eval fun y2 =>
  bif y2.2.1 then ((crest_Of_r3 (crest_Of_K d) y2).eval fun y3 =>
  some (y3.2, y3.1)) else ((crest_Of_r4 (crest_Of_K d) y2).eval fun y4 =>
  bif y4.1 then ((crest_Of_r5 (crest_Of_K d) y4).eval fun y5 =>
  some (y5.2, y5.1)) else ((crest_Of_r6 (crest_Of_K d) y4).eval fun y6 =>
  (crest_Of_r7 (crest_Of_K d) y6).eval fun y7 =>
  iter (crest_Of_L1 d ) d y7))
theorem crest_Of_cok (d : Nat) : COK prog (crest_Of_sp (F_crest_Of d)) := by
  have hm : prog.follows .mixedOrders = true := mixed
  have hT := tys
  have hC0 : OrcOK prog (orc (crest_Of_tab (crest_Of_K d))) := orc_ok (by
    intro S hS
    simp only [crest_Of_tab, List.mem_cons, List.not_mem_nil, or_false] at hS
    rcases hS with rfl | rfl | rfl | rfl | rfl
    · exact field_Order_cok d
    · exact field_Find_cok d
    · exact course_Fails_cok d
    · exact crest_compare_cok d
    · exact course_Ahead_cok d)
  have hC : OrcOK prog (orc (crest_Of_tab (crest_Of_K d))) := hC0
  refine cok_of (c := bodyOf f14) (fn := f14) hT (by kernel_rfl) (by kernel_rfl) (by decide) fun x r h w0 φ0 Q hend => ?_
  replace h : F_crest_Of d x = some r := h
  unfold F_crest_Of at h
  show Run prog w0 φ0 101 (bodyOf f14) ⟨[(0, .agg [.fz Riii x.1.1]), (1, .agg [.int .i64 x.2.1.1, .int .i64 x.2.1.2.1])], []⟩ Q
  refine run_seq ?_
  refine run_reg hm hT hC (crest_Of_g0 (crest_Of_K d) (x.1.1, x.2.1.1, x.2.1.2.1)) h ?_
  intro y0 h
  refine cn_then ?_
  refine run_seq ?_
  refine run_reg hm hT hC (crest_Of_g1 (crest_Of_K d) y0) h ?_
  intro y1 h
  refine cn_then ?_
  refine run_seq ?_
  refine run_seq ?_
  refine run_reg hm hT hC (crest_Of_g2 (crest_Of_K d) y1) h ?_
  intro y2 h
  refine cn_then ?_
  refine run_cond (v := y2.2.1) (by kernel_rfl) h ?_ ?_
  ·
    intro h
    refine run_seq ?_
    refine run_reg hm hT hC (crest_Of_g3 (crest_Of_K d) y2) h ?_
    intro y3 h
    refine cn_then ?_
    refine run_ret ?_
    refine cn_then_ret ?_
    cases h
    exact (hend _ (by kernel_rfl)).2
  ·
    intro h
    refine run_skip ?_
    refine cn_then ?_
    refine run_seq ?_
    refine run_seq ?_
    refine run_reg hm hT hC (crest_Of_g4 (crest_Of_K d) y2) h ?_
    intro y4 h
    refine cn_then ?_
    refine run_cond (v := y4.1) (by kernel_rfl) h ?_ ?_
    ·
      intro h
      refine run_seq ?_
      refine run_reg hm hT hC (crest_Of_g5 (crest_Of_K d) y4) h ?_
      intro y5 h
      refine cn_then ?_
      refine run_ret ?_
      refine cn_then_ret ?_
      cases h
      exact (hend _ (by kernel_rfl)).2
    ·
      intro h
      refine run_skip ?_
      refine cn_then ?_
      refine run_seq ?_
      refine run_reg hm hT hC (crest_Of_g6 (crest_Of_K d) y4) h ?_
      intro y6 h
      refine cn_then ?_
      refine run_seq ?_
      refine run_reg hm hT hC (crest_Of_g7 (crest_Of_K d) y6) h ?_
      intro y7 h
      refine cn_then ?_
      refine run_block ?_
      refine run_loop (G := iter (crest_Of_L1 d )) (S := (fun x1 => ⟨[(2, .ptr 0 0), (3, .ptr 1 0), (8, .ptr 2 0), (10, .rs 3)], [.cells [.fz Riii x1.1], .cells [.int .i64 x1.2.1, .int .i64 x1.2.2.1], .cells [.int .i64 x1.2.2.2.1, .int .i64 x1.2.2.2.2.1, .int .i64 x1.2.2.2.2.2.1], .rows Riii x1.2.2.2.2.2.2]⟩ : List Diii × Int × Int × Int × Int × Int × List Diii → St)) (fun _ => rfl) ?_ d _ h
      intro n1 x1 h K1 hn1
      replace h : crest_Of_L1 d  (iter (crest_Of_L1 d ) n1) x1 = some r := h
      generalize iter (crest_Of_L1 d ) n1 = self1 at h hn1
      unfold crest_Of_L1 at h
      refine run_block ?_
      refine run_seq ?_
      refine run_reg hm hT hC (crest_Of_g8 (crest_Of_K d) x1) h ?_
      intro y8 h
      refine cn_then ?_
      refine run_seq ?_
      refine run_reg hm hT hC (crest_Of_g9 (crest_Of_K d) y8) h ?_
      intro y9 h
      refine cn_then ?_
      refine run_seq ?_
      refine run_seq ?_
      refine run_reg hm hT hC (crest_Of_g10 (crest_Of_K d) y9) h ?_
      intro y10 h
      refine cn_then ?_
      refine run_block ?_
      refine run_loop (G := iter (crest_Of_L2 d self1)) (S := (fun x2 => ⟨[(2, .ptr 0 0), (3, .ptr 1 0), (8, .ptr 2 0), (10, .rs 3), (11, .ptr 4 0), (12, .ptr 5 0), (47, .fz Riii x2.1), (48, .int .i64 x2.2.1), (49, .int .i64 x2.2.2.1)], [.cells [.fz Riii x2.2.2.2.1], .cells [.int .i64 x2.2.2.2.2.1, .int .i64 x2.2.2.2.2.2.1], .cells [.int .i64 x2.2.2.2.2.2.2.1, .int .i64 x2.2.2.2.2.2.2.2.1, .int .i64 x2.2.2.2.2.2.2.2.2.1], .rows Riii x2.2.2.2.2.2.2.2.2.2.1, .cells [.int .i64 x2.2.2.2.2.2.2.2.2.2.2.1, .int .i64 x2.2.2.2.2.2.2.2.2.2.2.2.1, .int .i64 x2.2.2.2.2.2.2.2.2.2.2.2.2.1], .cells [.int .i64 x2.2.2.2.2.2.2.2.2.2.2.2.2.2.1, .int .i64 x2.2.2.2.2.2.2.2.2.2.2.2.2.2.2]]⟩ : List Diii × Int × Int × List Diii × Int × Int × Int × Int × Int × List Diii × Int × Int × Int × Int × Int → St)) (fun _ => rfl) ?_ d _ h
      intro n2 x2 h K2 hn2
      replace h : crest_Of_L2 d self1 (iter (crest_Of_L2 d self1) n2) x2 = some r := h
      generalize iter (crest_Of_L2 d self1) n2 = self2 at h hn2
      unfold crest_Of_L2 at h
      refine run_seq ?_
      refine run_reg hm hT hC (crest_Of_g11 (crest_Of_K d) x2) h ?_
      intro y11 h
      refine cn_then ?_
      refine run_seq ?_
      refine run_cond (v := y11.2.2.2.1) (by kernel_rfl) h ?_ ?_
      ·
        intro h
        refine run_skip ?_
        refine cn_then ?_
        refine run_join (r := r) (F := crest_Of_J3 d self1 self2) (S := (fun z => ⟨[(2, .ptr 0 0), (3, .ptr 1 0), (8, .ptr 2 0), (10, .rs 3), (11, .ptr 4 0), (12, .ptr 5 0), (47, .fz Riii z.1), (48, .int .i64 z.2.1), (49, .int .i64 z.2.2.1)], [.cells [.fz Riii z.2.2.2.1], .cells [.int .i64 z.2.2.2.2.1, .int .i64 z.2.2.2.2.2.1], .cells [.int .i64 z.2.2.2.2.2.2.1, .int .i64 z.2.2.2.2.2.2.2.1, .int .i64 z.2.2.2.2.2.2.2.2.1], .rows Riii z.2.2.2.2.2.2.2.2.2.1, .cells [.int .i64 z.2.2.2.2.2.2.2.2.2.2.1, .int .i64 z.2.2.2.2.2.2.2.2.2.2.2.1, .int .i64 z.2.2.2.2.2.2.2.2.2.2.2.2.1], .cells [.int .i64 z.2.2.2.2.2.2.2.2.2.2.2.2.2.1, .int .i64 z.2.2.2.2.2.2.2.2.2.2.2.2.2.2]]⟩ : List Diii × Int × Int × List Diii × Int × Int × Int × Int × Int × List Diii × Int × Int × Int × Int × Int → St)) ?_ ?_
        ·
          intro z h
          unfold crest_Of_J3 at h
          refine run_reg hm hT hC (crest_Of_g24 (crest_Of_K d) z) h ?_
          intro y24 h
          exact hn2 _ h
        intro hj3
        refine run_block ?_
        refine run_seq ?_
        refine run_reg hm hT hC (crest_Of_g12 (crest_Of_K d) y11) h ?_
        intro y12 h
        refine cn_then ?_
        refine run_seq ?_
        refine run_reg hm hT hC (crest_Of_g13 (crest_Of_K d) y12) h ?_
        intro y13 h
        refine cn_then ?_
        refine run_seq ?_
        refine run_seq ?_
        refine run_reg hm hT hC (crest_Of_g14 (crest_Of_K d) y13) h ?_
        intro y14 h
        refine cn_then ?_
        refine run_cond (v := y14.2.2.2.1) (by kernel_rfl) h ?_ ?_
        ·
          intro h
          refine run_exit ?_
          refine cn_then_exit ?_
          refine cn_blk_eq ?_
          refine cn_num (s := ⟨[(2, .ptr 0 0), (3, .ptr 1 0), (8, .ptr 2 0), (10, .rs 3), (11, .ptr 4 0), (12, .ptr 5 0), (47, .fz Riii y14.1), (48, .int .i64 y14.2.1), (49, .int .i64 y14.2.2.1)], [.cells [.fz Riii y14.2.2.2.2.1], .cells [.int .i64 y14.2.2.2.2.2.1, .int .i64 y14.2.2.2.2.2.2.1], .cells [.int .i64 y14.2.2.2.2.2.2.2.1, .int .i64 y14.2.2.2.2.2.2.2.2.1, .int .i64 y14.2.2.2.2.2.2.2.2.2.1], .rows Riii y14.2.2.2.2.2.2.2.2.2.2.1, .cells [.int .i64 y14.2.2.2.2.2.2.2.2.2.2.2.1, .int .i64 y14.2.2.2.2.2.2.2.2.2.2.2.2.1, .int .i64 y14.2.2.2.2.2.2.2.2.2.2.2.2.2.1], .cells [.int .i64 y14.2.2.2.2.2.2.2.2.2.2.2.2.2.2.1, .int .i64 y14.2.2.2.2.2.2.2.2.2.2.2.2.2.2.2.1]]⟩) [14, 15, 66] (by kernel_rfl) ?_
          exact hj3 _ h
        ·
          intro h
          refine run_skip ?_
          refine cn_then ?_
          refine run_seq ?_
          refine run_reg hm hT hC (crest_Of_g15 (crest_Of_K d) y14) h ?_
          intro y15 h
          refine cn_then ?_
          refine run_join (r := r) (F := crest_Of_J4 d self1 self2) (S := (fun z => ⟨[(2, .ptr 0 0), (3, .ptr 1 0), (8, .ptr 2 0), (10, .rs 3), (11, .ptr 4 0), (12, .ptr 5 0), (14, .ptr 6 0), (15, .ptr 7 0), (18, .int .i64 z.1), (47, .fz Riii z.2.1), (48, .int .i64 z.2.2.1), (49, .int .i64 z.2.2.2.1)], [.cells [.fz Riii z.2.2.2.2.1], .cells [.int .i64 z.2.2.2.2.2.1, .int .i64 z.2.2.2.2.2.2.1], .cells [.int .i64 z.2.2.2.2.2.2.2.1, .int .i64 z.2.2.2.2.2.2.2.2.1, .int .i64 z.2.2.2.2.2.2.2.2.2.1], .rows Riii z.2.2.2.2.2.2.2.2.2.2.1, .cells [.int .i64 z.2.2.2.2.2.2.2.2.2.2.2.1, .int .i64 z.2.2.2.2.2.2.2.2.2.2.2.2.1, .int .i64 z.2.2.2.2.2.2.2.2.2.2.2.2.2.1], .cells [.int .i64 z.2.2.2.2.2.2.2.2.2.2.2.2.2.2.1, .int .i64 z.2.2.2.2.2.2.2.2.2.2.2.2.2.2.2.1], .cells [.int .i64 z.2.2.2.2.2.2.2.2.2.2.2.2.2.2.2.2.1, .int .i64 z.2.2.2.2.2.2.2.2.2.2.2.2.2.2.2.2.2.1, .int .i64 z.2.2.2.2.2.2.2.2.2.2.2.2.2.2.2.2.2.2.1], .cells [.int .i64 z.2.2.2.2.2.2.2.2.2.2.2.2.2.2.2.2.2.2.2.1, .int .i64 z.2.2.2.2.2.2.2.2.2.2.2.2.2.2.2.2.2.2.2.2]]⟩ : Int × List Diii × Int × Int × List Diii × Int × Int × Int × Int × Int × List Diii × Int × Int × Int × Int × Int × Int × Int × Int × Int × Int → St)) ?_ ?_
          ·
            intro z h
            unfold crest_Of_J4 at h
            refine run_join (r := r) (F := crest_Of_J5 d self1 self2) (S := (fun z => ⟨[(2, .ptr 0 0), (3, .ptr 1 0), (8, .ptr 2 0), (10, .rs 3), (11, .ptr 4 0), (12, .ptr 5 0), (14, .ptr 6 0), (15, .ptr 7 0), (18, .int .i64 z.1), (47, .fz Riii z.2.1), (48, .int .i64 z.2.2.1), (49, .int .i64 z.2.2.2.1)], [.cells [.fz Riii z.2.2.2.2.1], .cells [.int .i64 z.2.2.2.2.2.1, .int .i64 z.2.2.2.2.2.2.1], .cells [.int .i64 z.2.2.2.2.2.2.2.1, .int .i64 z.2.2.2.2.2.2.2.2.1, .int .i64 z.2.2.2.2.2.2.2.2.2.1], .rows Riii z.2.2.2.2.2.2.2.2.2.2.1, .cells [.int .i64 z.2.2.2.2.2.2.2.2.2.2.2.1, .int .i64 z.2.2.2.2.2.2.2.2.2.2.2.2.1, .int .i64 z.2.2.2.2.2.2.2.2.2.2.2.2.2.1], .cells [.int .i64 z.2.2.2.2.2.2.2.2.2.2.2.2.2.2.1, .int .i64 z.2.2.2.2.2.2.2.2.2.2.2.2.2.2.2.1], .cells [.int .i64 z.2.2.2.2.2.2.2.2.2.2.2.2.2.2.2.2.1, .int .i64 z.2.2.2.2.2.2.2.2.2.2.2.2.2.2.2.2.2.1, .int .i64 z.2.2.2.2.2.2.2.2.2.2.2.2.2.2.2.2.2.2.1], .cells [.int .i64 z.2.2.2.2.2.2.2.2.2.2.2.2.2.2.2.2.2.2.2.1, .int .i64 z.2.2.2.2.2.2.2.2.2.2.2.2.2.2.2.2.2.2.2.2]]⟩ : Int × List Diii × Int × Int × List Diii × Int × Int × Int × Int × Int × List Diii × Int × Int × Int × Int × Int × Int × Int × Int × Int × Int → St)) ?_ ?_
            ·
              intro z h
              unfold crest_Of_J5 at h
              refine run_seq ?_
              refine run_reg hm hT hC (crest_Of_g22 (crest_Of_K d) z) h ?_
              intro y22 h
              refine cn_then ?_
              refine run_cond (v := y22.2.2.2.1) (by kernel_rfl) h ?_ ?_
              ·
                intro h
                refine run_reg hm hT hC (crest_Of_g23 (crest_Of_K d) y22) h ?_
                intro y23 h
                refine cn_blk ?_
                exact hj3 _ h
              ·
                intro h
                refine run_skip ?_
                refine cn_blk ?_
                refine cn_num (s := ⟨[(2, .ptr 0 0), (3, .ptr 1 0), (8, .ptr 2 0), (10, .rs 3), (11, .ptr 4 0), (12, .ptr 5 0), (47, .fz Riii y22.1), (48, .int .i64 y22.2.1), (49, .int .i64 y22.2.2.1), (84, .bool y22.2.2.2.1)], [.cells [.fz Riii y22.2.2.2.2.1], .cells [.int .i64 y22.2.2.2.2.2.1, .int .i64 y22.2.2.2.2.2.2.1], .cells [.int .i64 y22.2.2.2.2.2.2.2.1, .int .i64 y22.2.2.2.2.2.2.2.2.1, .int .i64 y22.2.2.2.2.2.2.2.2.2.1], .rows Riii y22.2.2.2.2.2.2.2.2.2.2.1, .cells [.int .i64 y22.2.2.2.2.2.2.2.2.2.2.2.1, .int .i64 y22.2.2.2.2.2.2.2.2.2.2.2.2.1, .int .i64 y22.2.2.2.2.2.2.2.2.2.2.2.2.2.1], .cells [.int .i64 y22.2.2.2.2.2.2.2.2.2.2.2.2.2.2.1, .int .i64 y22.2.2.2.2.2.2.2.2.2.2.2.2.2.2.2.1]]⟩) [14, 15] (by kernel_rfl) ?_
                refine cn_num (s := ⟨[(2, .ptr 0 0), (3, .ptr 1 0), (8, .ptr 2 0), (10, .rs 3), (11, .ptr 4 0), (12, .ptr 5 0), (47, .fz Riii y22.1), (48, .int .i64 y22.2.1), (49, .int .i64 y22.2.2.1)], [.cells [.fz Riii y22.2.2.2.2.1], .cells [.int .i64 y22.2.2.2.2.2.1, .int .i64 y22.2.2.2.2.2.2.1], .cells [.int .i64 y22.2.2.2.2.2.2.2.1, .int .i64 y22.2.2.2.2.2.2.2.2.1, .int .i64 y22.2.2.2.2.2.2.2.2.2.1], .rows Riii y22.2.2.2.2.2.2.2.2.2.2.1, .cells [.int .i64 y22.2.2.2.2.2.2.2.2.2.2.2.1, .int .i64 y22.2.2.2.2.2.2.2.2.2.2.2.2.1, .int .i64 y22.2.2.2.2.2.2.2.2.2.2.2.2.2.1], .cells [.int .i64 y22.2.2.2.2.2.2.2.2.2.2.2.2.2.2.1, .int .i64 y22.2.2.2.2.2.2.2.2.2.2.2.2.2.2.2.1]]⟩) [84] (by kernel_rfl) ?_
                exact hj3 _ h
            intro hj5
            refine run_seq ?_
            refine run_reg hm hT hC (crest_Of_g18 (crest_Of_K d) z) h ?_
            intro y18 h
            refine cn_then ?_
            refine run_cond (v := y18.2.2.2.2.1) (by kernel_rfl) h ?_ ?_
            ·
              intro h
              refine run_seq ?_
              refine run_reg hm hT hC (crest_Of_g19 (crest_Of_K d) y18) h ?_
              intro y19 h
              refine cn_then ?_
              refine run_seq ?_
              refine run_reg hm hT hC (crest_Of_g20 (crest_Of_K d) y19) h ?_
              intro y20 h
              refine cn_then ?_
              refine run_cond (v := y20.2.2.2.2.1) (by kernel_rfl) h ?_ ?_
              ·
                intro h
                refine run_reg hm hT hC (crest_Of_g21 (crest_Of_K d) y20) h ?_
                intro y21 h
                exact hj5 _ h
              ·
                intro h
                refine run_skip ?_
                refine cn_num (s := ⟨[(2, .ptr 0 0), (3, .ptr 1 0), (8, .ptr 2 0), (10, .rs 3), (11, .ptr 4 0), (12, .ptr 5 0), (14, .ptr 6 0), (15, .ptr 7 0), (18, .int .i64 y20.1), (47, .fz Riii y20.2.1), (48, .int .i64 y20.2.2.1), (49, .int .i64 y20.2.2.2.1)], [.cells [.fz Riii y20.2.2.2.2.2.1], .cells [.int .i64 y20.2.2.2.2.2.2.1, .int .i64 y20.2.2.2.2.2.2.2.1], .cells [.int .i64 y20.2.2.2.2.2.2.2.2.1, .int .i64 y20.2.2.2.2.2.2.2.2.2.1, .int .i64 y20.2.2.2.2.2.2.2.2.2.2.1], .rows Riii y20.2.2.2.2.2.2.2.2.2.2.2.1, .cells [.int .i64 y20.2.2.2.2.2.2.2.2.2.2.2.2.1, .int .i64 y20.2.2.2.2.2.2.2.2.2.2.2.2.2.1, .int .i64 y20.2.2.2.2.2.2.2.2.2.2.2.2.2.2.1], .cells [.int .i64 y20.2.2.2.2.2.2.2.2.2.2.2.2.2.2.2.1, .int .i64 y20.2.2.2.2.2.2.2.2.2.2.2.2.2.2.2.2.1], .cells [.int .i64 y20.2.2.2.2.2.2.2.2.2.2.2.2.2.2.2.2.2.1, .int .i64 y20.2.2.2.2.2.2.2.2.2.2.2.2.2.2.2.2.2.2.1, .int .i64 y20.2.2.2.2.2.2.2.2.2.2.2.2.2.2.2.2.2.2.2.1], .cells [.int .i64 y20.2.2.2.2.2.2.2.2.2.2.2.2.2.2.2.2.2.2.2.2.1, .int .i64 y20.2.2.2.2.2.2.2.2.2.2.2.2.2.2.2.2.2.2.2.2.2]]⟩) [82] (by kernel_rfl) ?_
                exact hj5 _ h
            ·
              intro h
              refine run_skip ?_
              refine cn_num (s := ⟨[(2, .ptr 0 0), (3, .ptr 1 0), (8, .ptr 2 0), (10, .rs 3), (11, .ptr 4 0), (12, .ptr 5 0), (14, .ptr 6 0), (15, .ptr 7 0), (18, .int .i64 y18.1), (47, .fz Riii y18.2.1), (48, .int .i64 y18.2.2.1), (49, .int .i64 y18.2.2.2.1)], [.cells [.fz Riii y18.2.2.2.2.2.1], .cells [.int .i64 y18.2.2.2.2.2.2.1, .int .i64 y18.2.2.2.2.2.2.2.1], .cells [.int .i64 y18.2.2.2.2.2.2.2.2.1, .int .i64 y18.2.2.2.2.2.2.2.2.2.1, .int .i64 y18.2.2.2.2.2.2.2.2.2.2.1], .rows Riii y18.2.2.2.2.2.2.2.2.2.2.2.1, .cells [.int .i64 y18.2.2.2.2.2.2.2.2.2.2.2.2.1, .int .i64 y18.2.2.2.2.2.2.2.2.2.2.2.2.2.1, .int .i64 y18.2.2.2.2.2.2.2.2.2.2.2.2.2.2.1], .cells [.int .i64 y18.2.2.2.2.2.2.2.2.2.2.2.2.2.2.2.1, .int .i64 y18.2.2.2.2.2.2.2.2.2.2.2.2.2.2.2.2.1], .cells [.int .i64 y18.2.2.2.2.2.2.2.2.2.2.2.2.2.2.2.2.2.1, .int .i64 y18.2.2.2.2.2.2.2.2.2.2.2.2.2.2.2.2.2.2.1, .int .i64 y18.2.2.2.2.2.2.2.2.2.2.2.2.2.2.2.2.2.2.2.1], .cells [.int .i64 y18.2.2.2.2.2.2.2.2.2.2.2.2.2.2.2.2.2.2.2.2.1, .int .i64 y18.2.2.2.2.2.2.2.2.2.2.2.2.2.2.2.2.2.2.2.2.2]]⟩) [74] (by kernel_rfl) ?_
              exact hj5 _ h
          intro hj4
          refine run_seq ?_
          refine run_reg hm hT hC (crest_Of_g16 (crest_Of_K d) y15) h ?_
          intro y16 h
          refine cn_then ?_
          refine run_cond (v := y16.2.2.2.2.1) (by kernel_rfl) h ?_ ?_
          ·
            intro h
            refine run_reg hm hT hC (crest_Of_g17 (crest_Of_K d) y16) h ?_
            intro y17 h
            exact hj4 _ h
          ·
            intro h
            refine run_skip ?_
            refine cn_num (s := ⟨[(2, .ptr 0 0), (3, .ptr 1 0), (8, .ptr 2 0), (10, .rs 3), (11, .ptr 4 0), (12, .ptr 5 0), (14, .ptr 6 0), (15, .ptr 7 0), (18, .int .i64 y16.1), (47, .fz Riii y16.2.1), (48, .int .i64 y16.2.2.1), (49, .int .i64 y16.2.2.2.1)], [.cells [.fz Riii y16.2.2.2.2.2.1], .cells [.int .i64 y16.2.2.2.2.2.2.1, .int .i64 y16.2.2.2.2.2.2.2.1], .cells [.int .i64 y16.2.2.2.2.2.2.2.2.1, .int .i64 y16.2.2.2.2.2.2.2.2.2.1, .int .i64 y16.2.2.2.2.2.2.2.2.2.2.1], .rows Riii y16.2.2.2.2.2.2.2.2.2.2.2.1, .cells [.int .i64 y16.2.2.2.2.2.2.2.2.2.2.2.2.1, .int .i64 y16.2.2.2.2.2.2.2.2.2.2.2.2.2.1, .int .i64 y16.2.2.2.2.2.2.2.2.2.2.2.2.2.2.1], .cells [.int .i64 y16.2.2.2.2.2.2.2.2.2.2.2.2.2.2.2.1, .int .i64 y16.2.2.2.2.2.2.2.2.2.2.2.2.2.2.2.2.1], .cells [.int .i64 y16.2.2.2.2.2.2.2.2.2.2.2.2.2.2.2.2.2.1, .int .i64 y16.2.2.2.2.2.2.2.2.2.2.2.2.2.2.2.2.2.2.1, .int .i64 y16.2.2.2.2.2.2.2.2.2.2.2.2.2.2.2.2.2.2.2.1], .cells [.int .i64 y16.2.2.2.2.2.2.2.2.2.2.2.2.2.2.2.2.2.2.2.2.1, .int .i64 y16.2.2.2.2.2.2.2.2.2.2.2.2.2.2.2.2.2.2.2.2.2]]⟩) [69] (by kernel_rfl) ?_
            exact hj4 _ h
      ·
        intro h
        refine run_exit ?_
        refine cn_then_exit ?_
        refine cn_then_exit ?_
        refine cn_blk_eq ?_
        refine cn_then ?_
        refine run_seq ?_
        refine run_seq ?_
        refine run_reg hm hT hC (crest_Of_g25 (crest_Of_K d) y11) h ?_
        intro y25 h
        refine cn_then ?_
        refine run_cond (v := y25.1) (by kernel_rfl) h ?_ ?_
        ·
          intro h
          refine run_seq ?_
          refine run_reg hm hT hC (crest_Of_g26 (crest_Of_K d) y25) h ?_
          intro y26 h
          refine cn_then ?_
          refine run_ret ?_
          refine cn_then_ret ?_
          refine cn_blk_ret ?_
          refine cn_then_ret ?_
          refine cn_blk_ret ?_
          cases h
          exact (hend _ (by kernel_rfl)).2
        ·
          intro h
          refine run_skip ?_
          refine cn_then ?_
          refine run_seq ?_
          refine run_reg hm hT hC (crest_Of_g27 (crest_Of_K d) y25) h ?_
          intro y27 h
          refine cn_then ?_
          refine run_reg hm hT hC (crest_Of_g28 (crest_Of_K d) y27) h ?_
          intro y28 h
          refine cn_blk ?_
          exact hn1 _ h
abbrev race_check_ps : List Pk := [.row RLiiiE true, .row Rii true, .row Rii true]
abbrev race_check_X : Type := DLiiiE × Dii × Dii × Unit
abbrev race_check_R : Type := Int
def race_check_enc (r : race_check_R) : LV × List Ob := (.int .i64 r, [])
def race_check_sp (F : race_check_X → Option race_check_R) : Go.Tx.Spec := ⟨59, race_check_ps, race_check_R, F, race_check_enc⟩
abbrev race_check_C : Type := (ratio_Check_X → Option ratio_Check_R) × (ratio_Cmp_X → Option ratio_Cmp_R) × (field_Check_X → Option field_Check_R) × Unit
def race_check_K (d : Nat) : race_check_C := (F_ratio_Check d, F_ratio_Cmp d, F_field_Check d, ())
def race_check_tab (C : race_check_C) : List Go.Tx.Spec := [ratio_Check_sp C.1, ratio_Cmp_sp C.2.1, field_Check_sp C.2.2.1]
abbrev race_check_Y0i : Type := List Diii × Int × Int × Int × Int
def race_check_S0i (v : race_check_Y0i) : St := ⟨[(0, .agg [.fz Riii v.1]), (1, .agg [.int .i64 v.2.1, .int .i64 v.2.2.1]), (2, .agg [.int .i64 v.2.2.2.1, .int .i64 v.2.2.2.2])], []⟩
abbrev race_check_Y0 : Type := List Diii × Int × Int × Int × Int
def race_check_S0 (v : race_check_Y0) : St := ⟨[(3, .ptr 0 0), (4, .ptr 1 0), (5, .ptr 2 0)], [.cells [.fz Riii v.1], .cells [.int .i64 v.2.1, .int .i64 v.2.2.1], .cells [.int .i64 v.2.2.2.1, .int .i64 v.2.2.2.2]]⟩
def race_check_r0 (C : race_check_C) (v : race_check_Y0i) : Dt race_check_Y0 := (Dt.ret (v.1, v.2.1, v.2.2.1, v.2.2.2.1, v.2.2.2.2))
theorem race_check_g0 (C : race_check_C) (v : race_check_Y0i) : treg tysT (orc (race_check_tab C)) 31 (regO (bodyOf f59) 0) false [(3, (.box [.val Riii])), (4, .any), (5, .any)] (race_check_S0i v) some = (race_check_r0 C v).eval fun y => some (race_check_S0 y) := by kernel_rfl
abbrev race_check_Y1 : Type := Int × Int × Int × Int × Int
def race_check_S1 (v : race_check_Y1) : St := ⟨[(4, .ptr 0 0), (5, .ptr 1 0), (7, .int .i64 v.1)], [.cells [.int .i64 v.2.1, .int .i64 v.2.2.1], .cells [.int .i64 v.2.2.2.1, .int .i64 v.2.2.2.2]]⟩
def race_check_r1 (C : race_check_C) (v : race_check_Y0) : Dt race_check_Y1 := (Dt.bnd (C.2.2.1 ((v.1, ()), ())) fun r1 => (Dt.ret (r1, v.2.1, v.2.2.1, v.2.2.2.1, v.2.2.2.2)))
theorem race_check_g1 (C : race_check_C) (v : race_check_Y0) : treg tysT (orc (race_check_tab C)) 31 (regO (bodyOf f59) 1) false [(4, .any), (5, .any), (7, .any)] (race_check_S0 v) some = (race_check_r1 C v).eval fun y => some (race_check_S1 y) := by kernel_rfl
abbrev race_check_Y2 : Type := Int × Bool × Int × Int × Int × Int
def race_check_S2 (v : race_check_Y2) : St := ⟨[(4, .ptr 0 0), (5, .ptr 1 0), (7, .int .i64 v.1), (13, .bool v.2.1)], [.cells [.int .i64 v.2.2.1, .int .i64 v.2.2.2.1], .cells [.int .i64 v.2.2.2.2.1, .int .i64 v.2.2.2.2.2]]⟩
def race_check_r2 (C : race_check_C) (v : race_check_Y1) : Dt race_check_Y2 := (Dt.ret (v.1, (v.1 != (0:Int)), v.2.1, v.2.2.1, v.2.2.2.1, v.2.2.2.2))
theorem race_check_g2 (C : race_check_C) (v : race_check_Y1) : treg tysT (orc (race_check_tab C)) 31 (regO (bodyOf f59) 2) false [(4, .any), (5, .any), (7, .any), (13, .any)] (race_check_S1 v) some = (race_check_r2 C v).eval fun y => some (race_check_S2 y) := by kernel_rfl
abbrev race_check_Y3 : Type := Int
def race_check_S3 (v : race_check_Y3) : St := ⟨[(6, .int .i64 v)], []⟩
def race_check_r3 (C : race_check_C) (v : race_check_Y2) : Dt race_check_Y3 := (Dt.ret v.1)
theorem race_check_g3 (C : race_check_C) (v : race_check_Y2) : treg tysT (orc (race_check_tab C)) 31 (regO (bodyOf f59) 3) false [(6, .any)] (race_check_S2 v) some = (race_check_r3 C v).eval fun y => some (race_check_S3 y) := by kernel_rfl
abbrev race_check_Y4 : Type := Bool × Int × Int × Int × Int
def race_check_S4 (v : race_check_Y4) : St := ⟨[(4, .ptr 0 0), (5, .ptr 1 0), (22, .bool v.1)], [.cells [.int .i64 v.2.1, .int .i64 v.2.2.1], .cells [.int .i64 v.2.2.2.1, .int .i64 v.2.2.2.2]]⟩
def race_check_r4 (C : race_check_C) (v : race_check_Y2) : Dt race_check_Y4 := (Dt.bnd (C.1 ((v.2.2.1, v.2.2.2.1, ()), ())) fun r1 => (Dt.ite (r1 != (0:Int)) (Dt.ret (true, v.2.2.1, v.2.2.2.1, v.2.2.2.2.1, v.2.2.2.2.2)) (Dt.bnd (C.1 ((v.2.2.2.2.1, v.2.2.2.2.2, ()), ())) fun r2 => (Dt.ret ((r2 != (0:Int)), v.2.2.1, v.2.2.2.1, v.2.2.2.2.1, v.2.2.2.2.2)))))
theorem race_check_g4 (C : race_check_C) (v : race_check_Y2) : treg tysT (orc (race_check_tab C)) 31 (regO (bodyOf f59) 4) false [(4, .any), (5, .any), (22, .any)] (race_check_S2 v) some = (race_check_r4 C v).eval fun y => some (race_check_S4 y) := by kernel_rfl
def race_check_r5 (C : race_check_C) (v : race_check_Y4) : Dt race_check_Y3 := (Dt.ret (8:Int))
theorem race_check_g5 (C : race_check_C) (v : race_check_Y4) : treg tysT (orc (race_check_tab C)) 31 (regO (bodyOf f59) 5) false [(6, .any)] (race_check_S4 v) some = (race_check_r5 C v).eval fun y => some (race_check_S3 y) := by kernel_rfl
abbrev race_check_Y6 : Type := Int
def race_check_S6 (v : race_check_Y6) : St := ⟨[(8, .int .i64 v)], []⟩
def race_check_r6 (C : race_check_C) (v : race_check_Y4) : Dt race_check_Y6 := (Dt.bnd (C.2.1 ((v.2.1, v.2.2.1, ()), (v.2.2.2.1, v.2.2.2.2, ()), ())) fun r1 => (Dt.ret r1.1))
theorem race_check_g6 (C : race_check_C) (v : race_check_Y4) : treg tysT (orc (race_check_tab C)) 31 (regO (bodyOf f59) 6) false [(8, .any)] (race_check_S4 v) some = (race_check_r6 C v).eval fun y => some (race_check_S6 y) := by kernel_rfl
abbrev race_check_Y7 : Type := Bool
def race_check_S7 (v : race_check_Y7) : St := ⟨[(30, .bool v)], []⟩
def race_check_r7 (C : race_check_C) (v : race_check_Y6) : Dt race_check_Y7 := (Dt.ret (decide (v > (0:Int))))
theorem race_check_g7 (C : race_check_C) (v : race_check_Y6) : treg tysT (orc (race_check_tab C)) 31 (regO (bodyOf f59) 7) false [(30, .any)] (race_check_S6 v) some = (race_check_r7 C v).eval fun y => some (race_check_S7 y) := by kernel_rfl
def race_check_r8 (C : race_check_C) (v : race_check_Y7) : Dt race_check_Y3 := (Dt.ret (2:Int))
theorem race_check_g8 (C : race_check_C) (v : race_check_Y7) : treg tysT (orc (race_check_tab C)) 31 (regO (bodyOf f59) 8) false [(6, .any)] (race_check_S7 v) some = (race_check_r8 C v).eval fun y => some (race_check_S3 y) := by kernel_rfl
def race_check_r9 (C : race_check_C) (v : race_check_Y7) : Dt race_check_Y3 := (Dt.ret (0:Int))
theorem race_check_g9 (C : race_check_C) (v : race_check_Y7) : treg tysT (orc (race_check_tab C)) 31 (regO (bodyOf f59) 9) false [(6, .any)] (race_check_S7 v) some = (race_check_r9 C v).eval fun y => some (race_check_S3 y) := by kernel_rfl
def F_race_check (d : Nat) (x : race_check_X) : Option race_check_R :=
  (race_check_r0 (race_check_K d) (x.1.1, x.2.1.1, x.2.1.2.1, x.2.2.1.1, x.2.2.1.2.1)).eval fun y0 =>
  (race_check_r1 (race_check_K d) y0).eval fun y1 =>
  (race_check_r2 (race_check_K d) y1).eval fun y2 =>
  bif y2.2.1 then ((race_check_r3 (race_check_K d) y2).eval fun y3 =>
  some y3) else ((race_check_r4 (race_check_K d) y2).eval fun y4 =>
  bif y4.1 then ((race_check_r5 (race_check_K d) y4).eval fun y5 =>
  some y5) else ((race_check_r6 (race_check_K d) y4).eval fun y6 =>
  (race_check_r7 (race_check_K d) y6).eval fun y7 =>
  bif y7 then ((race_check_r8 (race_check_K d) y7).eval fun y8 =>
  some y8) else ((race_check_r9 (race_check_K d) y7).eval fun y9 =>
  some y9)))
theorem race_check_cok (d : Nat) : COK prog (race_check_sp (F_race_check d)) := by
  have hm : prog.follows .mixedOrders = true := mixed
  have hT := tys
  have hC0 : OrcOK prog (orc (race_check_tab (race_check_K d))) := orc_ok (by
    intro S hS
    simp only [race_check_tab, List.mem_cons, List.not_mem_nil, or_false] at hS
    rcases hS with rfl | rfl | rfl
    · exact ratio_Check_cok d
    · exact ratio_Cmp_cok d
    · exact field_Check_cok d)
  have hC : OrcOK prog (orc (race_check_tab (race_check_K d))) := hC0
  refine cok_of (c := bodyOf f59) (fn := f59) hT (by kernel_rfl) (by kernel_rfl) (by decide) fun x r h w0 φ0 Q hend => ?_
  replace h : F_race_check d x = some r := h
  unfold F_race_check at h
  show Run prog w0 φ0 31 (bodyOf f59) ⟨[(0, .agg [.fz Riii x.1.1]), (1, .agg [.int .i64 x.2.1.1, .int .i64 x.2.1.2.1]), (2, .agg [.int .i64 x.2.2.1.1, .int .i64 x.2.2.1.2.1])], []⟩ Q
  refine run_seq ?_
  refine run_reg hm hT hC (race_check_g0 (race_check_K d) (x.1.1, x.2.1.1, x.2.1.2.1, x.2.2.1.1, x.2.2.1.2.1)) h ?_
  intro y0 h
  refine cn_then ?_
  refine run_seq ?_
  refine run_seq ?_
  refine run_reg hm hT hC (race_check_g1 (race_check_K d) y0) h ?_
  intro y1 h
  refine cn_then ?_
  refine run_seq ?_
  refine run_reg hm hT hC (race_check_g2 (race_check_K d) y1) h ?_
  intro y2 h
  refine cn_then ?_
  refine run_cond (v := y2.2.1) (by kernel_rfl) h ?_ ?_
  ·
    intro h
    refine run_seq ?_
    refine run_reg hm hT hC (race_check_g3 (race_check_K d) y2) h ?_
    intro y3 h
    refine cn_then ?_
    refine run_ret ?_
    refine cn_then_ret ?_
    cases h
    exact (hend _ (by kernel_rfl)).2
  ·
    intro h
    refine run_skip ?_
    refine cn_then ?_
    refine run_seq ?_
    refine run_seq ?_
    refine run_reg hm hT hC (race_check_g4 (race_check_K d) y2) h ?_
    intro y4 h
    refine cn_then ?_
    refine run_cond (v := y4.1) (by kernel_rfl) h ?_ ?_
    ·
      intro h
      refine run_seq ?_
      refine run_reg hm hT hC (race_check_g5 (race_check_K d) y4) h ?_
      intro y5 h
      refine cn_then ?_
      refine run_ret ?_
      refine cn_then_ret ?_
      cases h
      exact (hend _ (by kernel_rfl)).2
    ·
      intro h
      refine run_skip ?_
      refine cn_then ?_
      refine run_seq ?_
      refine run_seq ?_
      refine run_reg hm hT hC (race_check_g6 (race_check_K d) y4) h ?_
      intro y6 h
      refine cn_then ?_
      refine run_seq ?_
      refine run_reg hm hT hC (race_check_g7 (race_check_K d) y6) h ?_
      intro y7 h
      refine cn_then ?_
      refine run_cond (v := y7) (by kernel_rfl) h ?_ ?_
      ·
        intro h
        refine run_seq ?_
        refine run_reg hm hT hC (race_check_g8 (race_check_K d) y7) h ?_
        intro y8 h
        refine cn_then ?_
        refine run_ret ?_
        refine cn_then_ret ?_
        cases h
        exact (hend _ (by kernel_rfl)).2
      ·
        intro h
        refine run_skip ?_
        refine cn_then ?_
        refine run_seq ?_
        refine run_reg hm hT hC (race_check_g9 (race_check_K d) y7) h ?_
        intro y9 h
        refine cn_then ?_
        refine run_ret ?_
        cases h
        exact (hend _ (by kernel_rfl)).2
abbrev race_less_ps : List Pk := [.row Rii true, .row Rii true]
abbrev race_less_X : Type := Dii × Dii × Unit
abbrev race_less_R : Type := Bool
def race_less_enc (r : race_less_R) : LV × List Ob := (.bool r, [])
def race_less_sp (F : race_less_X → Option race_less_R) : Go.Tx.Spec := ⟨60, race_less_ps, race_less_R, F, race_less_enc⟩
abbrev race_less_C : Type := (ratio_Cmp_X → Option ratio_Cmp_R) × Unit
def race_less_K (d : Nat) : race_less_C := (F_ratio_Cmp d, ())
def race_less_tab (C : race_less_C) : List Go.Tx.Spec := [ratio_Cmp_sp C.1]
abbrev race_less_Y0i : Type := Int × Int × Int × Int
def race_less_S0i (v : race_less_Y0i) : St := ⟨[(0, .agg [.int .i64 v.1, .int .i64 v.2.1]), (1, .agg [.int .i64 v.2.2.1, .int .i64 v.2.2.2])], []⟩
abbrev race_less_Y0 : Type := Int × Int × Int × Int
def race_less_S0 (v : race_less_Y0) : St := ⟨[(2, .ptr 0 0), (3, .ptr 1 0)], [.cells [.int .i64 v.1, .int .i64 v.2.1], .cells [.int .i64 v.2.2.1, .int .i64 v.2.2.2]]⟩
def race_less_r0 (C : race_less_C) (v : race_less_Y0i) : Dt race_less_Y0 := (Dt.ret (v.1, v.2.1, v.2.2.1, v.2.2.2))
theorem race_less_g0 (C : race_less_C) (v : race_less_Y0i) : treg tysT (orc (race_less_tab C)) 15 (regO (bodyOf f60) 0) false [(2, .any), (3, .any)] (race_less_S0i v) some = (race_less_r0 C v).eval fun y => some (race_less_S0 y) := by kernel_rfl
abbrev race_less_Y1 : Type := Int
def race_less_S1 (v : race_less_Y1) : St := ⟨[(5, .int .i64 v)], []⟩
def race_less_r1 (C : race_less_C) (v : race_less_Y0) : Dt race_less_Y1 := (Dt.bnd (C.1 ((v.1, v.2.1, ()), (v.2.2.1, v.2.2.2, ()), ())) fun r1 => (Dt.ret r1.1))
theorem race_less_g1 (C : race_less_C) (v : race_less_Y0) : treg tysT (orc (race_less_tab C)) 15 (regO (bodyOf f60) 1) false [(5, .any)] (race_less_S0 v) some = (race_less_r1 C v).eval fun y => some (race_less_S1 y) := by kernel_rfl
abbrev race_less_Y2 : Type := Bool
def race_less_S2 (v : race_less_Y2) : St := ⟨[(4, .bool v)], []⟩
def race_less_r2 (C : race_less_C) (v : race_less_Y1) : Dt race_less_Y2 := (Dt.ret (decide (v < (0:Int))))
theorem race_less_g2 (C : race_less_C) (v : race_less_Y1) : treg tysT (orc (race_less_tab C)) 15 (regO (bodyOf f60) 2) false [(4, .any)] (race_less_S1 v) some = (race_less_r2 C v).eval fun y => some (race_less_S2 y) := by kernel_rfl
def F_race_less (d : Nat) (x : race_less_X) : Option race_less_R :=
  (race_less_r0 (race_less_K d) (x.1.1, x.1.2.1, x.2.1.1, x.2.1.2.1)).eval fun y0 =>
  (race_less_r1 (race_less_K d) y0).eval fun y1 =>
  (race_less_r2 (race_less_K d) y1).eval fun y2 =>
  some y2
theorem race_less_cok (d : Nat) : COK prog (race_less_sp (F_race_less d)) := by
  have hm : prog.follows .mixedOrders = true := mixed
  have hT := tys
  have hC0 : OrcOK prog (orc (race_less_tab (race_less_K d))) := orc_ok (by
    intro S hS
    simp only [race_less_tab, List.mem_cons, List.not_mem_nil, or_false] at hS
    subst hS; exact ratio_Cmp_cok d)
  have hC : OrcOK prog (orc (race_less_tab (race_less_K d))) := hC0
  refine cok_of (c := bodyOf f60) (fn := f60) hT (by kernel_rfl) (by kernel_rfl) (by decide) fun x r h w0 φ0 Q hend => ?_
  replace h : F_race_less d x = some r := h
  unfold F_race_less at h
  show Run prog w0 φ0 15 (bodyOf f60) ⟨[(0, .agg [.int .i64 x.1.1, .int .i64 x.1.2.1]), (1, .agg [.int .i64 x.2.1.1, .int .i64 x.2.1.2.1])], []⟩ Q
  refine run_seq ?_
  refine run_reg hm hT hC (race_less_g0 (race_less_K d) (x.1.1, x.1.2.1, x.2.1.1, x.2.1.2.1)) h ?_
  intro y0 h
  refine cn_then ?_
  refine run_seq ?_
  refine run_reg hm hT hC (race_less_g1 (race_less_K d) y0) h ?_
  intro y1 h
  refine cn_then ?_
  refine run_seq ?_
  refine run_reg hm hT hC (race_less_g2 (race_less_K d) y1) h ?_
  intro y2 h
  refine cn_then ?_
  refine run_ret ?_
  cases h
  exact (hend _ (by kernel_rfl)).2
abbrev race_Reigns_ps : List Pk := [.row RLiiiE true, .row Rii true, .row Rii true]
abbrev race_Reigns_X : Type := DLiiiE × Dii × Dii × Unit
abbrev race_Reigns_R : Type := List Diiiii × Int
def race_Reigns_enc (r : race_Reigns_R) : LV × List Ob := (.tup [.rs 0, .int .i64 r.2], [.rows Riiiii r.1])
def race_Reigns_sp (F : race_Reigns_X → Option race_Reigns_R) : Go.Tx.Spec := ⟨29, race_Reigns_ps, race_Reigns_R, F, race_Reigns_enc⟩
abbrev race_Reigns_C : Type := (crest_Of_X → Option crest_Of_R) × (race_check_X → Option race_check_R) × (race_less_X → Option race_less_R) × Unit
def race_Reigns_K (d : Nat) : race_Reigns_C := (F_crest_Of d, F_race_check d, F_race_less d, ())
def race_Reigns_tab (C : race_Reigns_C) : List Go.Tx.Spec := [crest_Of_sp C.1, race_check_sp C.2.1, race_less_sp C.2.2.1]
abbrev race_Reigns_Y0i : Type := List Diii × Int × Int × Int × Int
def race_Reigns_S0i (v : race_Reigns_Y0i) : St := ⟨[(0, .agg [.fz Riii v.1]), (1, .agg [.int .i64 v.2.1, .int .i64 v.2.2.1]), (2, .agg [.int .i64 v.2.2.2.1, .int .i64 v.2.2.2.2])], []⟩
abbrev race_Reigns_Y0 : Type := List Diii × Int × Int × Int × Int
def race_Reigns_S0 (v : race_Reigns_Y0) : St := ⟨[(3, .ptr 0 0), (4, .ptr 1 0), (5, .ptr 2 0)], [.cells [.fz Riii v.1], .cells [.int .i64 v.2.1, .int .i64 v.2.2.1], .cells [.int .i64 v.2.2.2.1, .int .i64 v.2.2.2.2]]⟩
def race_Reigns_r0 (C : race_Reigns_C) (v : race_Reigns_Y0i) : Dt race_Reigns_Y0 := (Dt.ret (v.1, v.2.1, v.2.2.1, v.2.2.2.1, v.2.2.2.2))
theorem race_Reigns_g0 (C : race_Reigns_C) (v : race_Reigns_Y0i) : treg tysT (orc (race_Reigns_tab C)) 62 (regO (bodyOf f29) 0) false [(3, (.box [.val Riii])), (4, .any), (5, .any)] (race_Reigns_S0i v) some = (race_Reigns_r0 C v).eval fun y => some (race_Reigns_S0 y) := by kernel_rfl
abbrev race_Reigns_Y1 : Type := Int × List Diii × Int × Int × Int × Int
def race_Reigns_S1 (v : race_Reigns_Y1) : St := ⟨[(3, .ptr 0 0), (4, .ptr 1 0), (5, .ptr 2 0), (8, .int .i64 v.1)], [.cells [.fz Riii v.2.1], .cells [.int .i64 v.2.2.1, .int .i64 v.2.2.2.1], .cells [.int .i64 v.2.2.2.2.1, .int .i64 v.2.2.2.2.2]]⟩
def race_Reigns_r1 (C : race_Reigns_C) (v : race_Reigns_Y0) : Dt race_Reigns_Y1 := (Dt.bnd (C.2.1 ((v.1, ()), (v.2.1, v.2.2.1, ()), (v.2.2.2.1, v.2.2.2.2, ()), ())) fun r1 => (Dt.ret (r1, v.1, v.2.1, v.2.2.1, v.2.2.2.1, v.2.2.2.2)))
theorem race_Reigns_g1 (C : race_Reigns_C) (v : race_Reigns_Y0) : treg tysT (orc (race_Reigns_tab C)) 62 (regO (bodyOf f29) 1) false [(3, (.box [.val Riii])), (4, .any), (5, .any), (8, .any)] (race_Reigns_S0 v) some = (race_Reigns_r1 C v).eval fun y => some (race_Reigns_S1 y) := by kernel_rfl
abbrev race_Reigns_Y2 : Type := Int × Bool × List Diii × Int × Int × Int × Int
def race_Reigns_S2 (v : race_Reigns_Y2) : St := ⟨[(3, .ptr 0 0), (4, .ptr 1 0), (5, .ptr 2 0), (8, .int .i64 v.1), (19, .bool v.2.1)], [.cells [.fz Riii v.2.2.1], .cells [.int .i64 v.2.2.2.1, .int .i64 v.2.2.2.2.1], .cells [.int .i64 v.2.2.2.2.2.1, .int .i64 v.2.2.2.2.2.2]]⟩
def race_Reigns_r2 (C : race_Reigns_C) (v : race_Reigns_Y1) : Dt race_Reigns_Y2 := (Dt.ret (v.1, (v.1 != (0:Int)), v.2.1, v.2.2.1, v.2.2.2.1, v.2.2.2.2.1, v.2.2.2.2.2))
theorem race_Reigns_g2 (C : race_Reigns_C) (v : race_Reigns_Y1) : treg tysT (orc (race_Reigns_tab C)) 62 (regO (bodyOf f29) 2) false [(3, (.box [.val Riii])), (4, .any), (5, .any), (8, .any), (19, .any)] (race_Reigns_S1 v) some = (race_Reigns_r2 C v).eval fun y => some (race_Reigns_S2 y) := by kernel_rfl
abbrev race_Reigns_Y3 : Type := Int × List Diiiii
def race_Reigns_S3 (v : race_Reigns_Y3) : St := ⟨[(6, .rs 0), (7, .int .i64 v.1)], [.rows Riiiii v.2]⟩
def race_Reigns_r3 (C : race_Reigns_C) (v : race_Reigns_Y2) : Dt race_Reigns_Y3 := (Dt.ret (v.1, ([] : List Diiiii)))
theorem race_Reigns_g3 (C : race_Reigns_C) (v : race_Reigns_Y2) : treg tysT (orc (race_Reigns_tab C)) 62 (regO (bodyOf f29) 3) false [(6, (.own Riiiii)), (7, .any)] (race_Reigns_S2 v) some = (race_Reigns_r3 C v).eval fun y => some (race_Reigns_S3 y) := by kernel_rfl
abbrev race_Reigns_Y4 : Type := Int × Int × Int × List Diii
def race_Reigns_S4 (v : race_Reigns_Y4) : St := ⟨[(5, .ptr 0 0), (9, .rs 1), (10, .int .i64 v.1)], [.cells [.int .i64 v.2.1, .int .i64 v.2.2.1], .rows Riii v.2.2.2]⟩
def race_Reigns_r4 (C : race_Reigns_C) (v : race_Reigns_Y2) : Dt race_Reigns_Y4 := (Dt.bnd (C.1 ((v.2.2.1, ()), (v.2.2.2.1, v.2.2.2.2.1, ()), ())) fun r1 => (Dt.ret (r1.2, v.2.2.2.2.2.1, v.2.2.2.2.2.2, r1.1)))
theorem race_Reigns_g4 (C : race_Reigns_C) (v : race_Reigns_Y2) : treg tysT (orc (race_Reigns_tab C)) 62 (regO (bodyOf f29) 4) false [(5, .any), (9, (.own Riii)), (10, .any)] (race_Reigns_S2 v) some = (race_Reigns_r4 C v).eval fun y => some (race_Reigns_S4 y) := by kernel_rfl
abbrev race_Reigns_Y5 : Type := Int × Bool × Int × Int × List Diii
def race_Reigns_S5 (v : race_Reigns_Y5) : St := ⟨[(5, .ptr 0 0), (9, .rs 1), (10, .int .i64 v.1), (28, .bool v.2.1)], [.cells [.int .i64 v.2.2.1, .int .i64 v.2.2.2.1], .rows Riii v.2.2.2.2]⟩
def race_Reigns_r5 (C : race_Reigns_C) (v : race_Reigns_Y4) : Dt race_Reigns_Y5 := (Dt.ret (v.1, (v.1 != (0:Int)), v.2.1, v.2.2.1, v.2.2.2))
theorem race_Reigns_g5 (C : race_Reigns_C) (v : race_Reigns_Y4) : treg tysT (orc (race_Reigns_tab C)) 62 (regO (bodyOf f29) 5) false [(5, .any), (9, (.own Riii)), (10, .any), (28, .any)] (race_Reigns_S4 v) some = (race_Reigns_r5 C v).eval fun y => some (race_Reigns_S5 y) := by kernel_rfl
def race_Reigns_r6 (C : race_Reigns_C) (v : race_Reigns_Y5) : Dt race_Reigns_Y3 := (Dt.ret (v.1, ([] : List Diiiii)))
theorem race_Reigns_g6 (C : race_Reigns_C) (v : race_Reigns_Y5) : treg tysT (orc (race_Reigns_tab C)) 62 (regO (bodyOf f29) 6) false [(6, (.own Riiiii)), (7, .any)] (race_Reigns_S5 v) some = (race_Reigns_r6 C v).eval fun y => some (race_Reigns_S3 y) := by kernel_rfl
abbrev race_Reigns_Y7 : Type := Int × Int × List Diii × List Diiiii
def race_Reigns_S7 (v : race_Reigns_Y7) : St := ⟨[(5, .ptr 0 0), (9, .rs 1), (11, .rs 2)], [.cells [.int .i64 v.1, .int .i64 v.2.1], .rows Riii v.2.2.1, .rows Riiiii v.2.2.2]⟩
def race_Reigns_r7 (C : race_Reigns_C) (v : race_Reigns_Y5) : Dt race_Reigns_Y7 := (Dt.ret (v.2.2.1, v.2.2.2.1, v.2.2.2.2, ([] : List Diiiii)))
theorem race_Reigns_g7 (C : race_Reigns_C) (v : race_Reigns_Y5) : treg tysT (orc (race_Reigns_tab C)) 62 (regO (bodyOf f29) 7) false [(5, .any), (9, (.own Riii)), (11, (.own Riiiii))] (race_Reigns_S5 v) some = (race_Reigns_r7 C v).eval fun y => some (race_Reigns_S7 y) := by kernel_rfl
abbrev race_Reigns_Y8 : Type := Int × Int × Int × Int × List Diiiii × List Diii
def race_Reigns_S8 (v : race_Reigns_Y8) : St := ⟨[(5, .ptr 0 0), (11, .rs 1), (30, .rs 2), (31, .int .i64 v.1), (32, .int .i64 v.2.1)], [.cells [.int .i64 v.2.2.1, .int .i64 v.2.2.2.1], .rows Riiiii v.2.2.2.2.1, .rows Riii v.2.2.2.2.2]⟩
def race_Reigns_r8 (C : race_Reigns_C) (v : race_Reigns_Y7) : Dt race_Reigns_Y8 := (Dt.ret ((List.length v.2.2.1 : Int), (0:Int), v.1, v.2.1, v.2.2.2, v.2.2.1))
theorem race_Reigns_g8 (C : race_Reigns_C) (v : race_Reigns_Y7) : treg tysT (orc (race_Reigns_tab C)) 62 (regO (bodyOf f29) 8) false [(5, .any), (11, (.own Riiiii)), (30, (.own Riii)), (31, .any), (32, .any)] (race_Reigns_S7 v) some = (race_Reigns_r8 C v).eval fun y => some (race_Reigns_S8 y) := by kernel_rfl
abbrev race_Reigns_Y9 : Type := Int × Int × Bool × Int × Int × List Diiiii × List Diii
def race_Reigns_S9 (v : race_Reigns_Y9) : St := ⟨[(5, .ptr 0 0), (11, .rs 1), (30, .rs 2), (31, .int .i64 v.1), (32, .int .i64 v.2.1), (33, .bool v.2.2.1)], [.cells [.int .i64 v.2.2.2.1, .int .i64 v.2.2.2.2.1], .rows Riiiii v.2.2.2.2.2.1, .rows Riii v.2.2.2.2.2.2]⟩
def race_Reigns_r9 (C : race_Reigns_C) (v : race_Reigns_Y8) : Dt race_Reigns_Y9 := (Dt.ret (v.1, v.2.1, (decide (v.2.1 < v.1)), v.2.2.1, v.2.2.2.1, v.2.2.2.2.1, v.2.2.2.2.2))
theorem race_Reigns_g9 (C : race_Reigns_C) (v : race_Reigns_Y8) : treg tysT (orc (race_Reigns_tab C)) 62 (regO (bodyOf f29) 9) false [(5, .any), (11, (.own Riiiii)), (30, (.own Riii)), (31, .any), (32, .any), (33, .any)] (race_Reigns_S8 v) some = (race_Reigns_r9 C v).eval fun y => some (race_Reigns_S9 y) := by kernel_rfl
abbrev race_Reigns_Y10 : Type := Int × Int × Int × Int × Int × List Diiiii × Int × Int × Int × List Diii
def race_Reigns_S10 (v : race_Reigns_Y10) : St := ⟨[(5, .ptr 0 0), (11, .rs 1), (12, .int .i64 v.1), (13, .ptr 2 0), (30, .rs 3), (31, .int .i64 v.2.1), (32, .int .i64 v.2.2.1)], [.cells [.int .i64 v.2.2.2.1, .int .i64 v.2.2.2.2.1], .rows Riiiii v.2.2.2.2.2.1, .cells [.int .i64 v.2.2.2.2.2.2.1, .int .i64 v.2.2.2.2.2.2.2.1, .int .i64 v.2.2.2.2.2.2.2.2.1], .rows Riii v.2.2.2.2.2.2.2.2.2]⟩
def race_Reigns_r10 (C : race_Reigns_C) (v : race_Reigns_Y9) : Dt race_Reigns_Y10 := (Dt.ite (inB v.2.1 (List.length v.2.2.2.2.2.2)) (Dt.ret (v.2.1, v.1, v.2.1, v.2.2.2.1, v.2.2.2.2.1, v.2.2.2.2.2.1, (elt ziii v.2.2.2.2.2.2 (v.2.1).toNat).1, (elt ziii v.2.2.2.2.2.2 (v.2.1).toNat).2.1, (elt ziii v.2.2.2.2.2.2 (v.2.1).toNat).2.2.1, v.2.2.2.2.2.2)) Dt.fail)
theorem race_Reigns_g10 (C : race_Reigns_C) (v : race_Reigns_Y9) : treg tysT (orc (race_Reigns_tab C)) 62 (regO (bodyOf f29) 10) false [(5, .any), (11, (.own Riiiii)), (12, .any), (13, .any), (30, (.own Riii)), (31, .any), (32, .any)] (race_Reigns_S9 v) some = (race_Reigns_r10 C v).eval fun y => some (race_Reigns_S10 y) := by kernel_rfl
abbrev race_Reigns_Y11 : Type := Int × Int × Int × Bool × Int × Int × List Diiiii × Int × Int × Int × List Diii
def race_Reigns_S11 (v : race_Reigns_Y11) : St := ⟨[(5, .ptr 0 0), (11, .rs 1), (12, .int .i64 v.1), (13, .ptr 2 0), (30, .rs 3), (31, .int .i64 v.2.1), (32, .int .i64 v.2.2.1), (38, .bool v.2.2.2.1)], [.cells [.int .i64 v.2.2.2.2.1, .int .i64 v.2.2.2.2.2.1], .rows Riiiii v.2.2.2.2.2.2.1, .cells [.int .i64 v.2.2.2.2.2.2.2.1, .int .i64 v.2.2.2.2.2.2.2.2.1, .int .i64 v.2.2.2.2.2.2.2.2.2.1], .rows Riii v.2.2.2.2.2.2.2.2.2.2]⟩
def race_Reigns_r11 (C : race_Reigns_C) (v : race_Reigns_Y10) : Dt race_Reigns_Y11 := (Dt.ret (v.1, v.2.1, v.2.2.1, (decide (v.1 > (0:Int))), v.2.2.2.1, v.2.2.2.2.1, v.2.2.2.2.2.1, v.2.2.2.2.2.2.1, v.2.2.2.2.2.2.2.1, v.2.2.2.2.2.2.2.2.1, v.2.2.2.2.2.2.2.2.2))
theorem race_Reigns_g11 (C : race_Reigns_C) (v : race_Reigns_Y10) : treg tysT (orc (race_Reigns_tab C)) 62 (regO (bodyOf f29) 11) false [(5, .any), (11, (.own Riiiii)), (12, .any), (13, .any), (30, (.own Riii)), (31, .any), (32, .any), (38, .any)] (race_Reigns_S10 v) some = (race_Reigns_r11 C v).eval fun y => some (race_Reigns_S11 y) := by kernel_rfl
abbrev race_Reigns_Y12 : Type := Int × Int × Int × Bool × Int × Int × List Diiiii × Int × Int × Int × List Diii
def race_Reigns_S12 (v : race_Reigns_Y12) : St := ⟨[(5, .ptr 0 0), (11, .rs 1), (12, .int .i64 v.1), (13, .ptr 2 0), (30, .rs 3), (31, .int .i64 v.2.1), (32, .int .i64 v.2.2.1), (43, .bool v.2.2.2.1)], [.cells [.int .i64 v.2.2.2.2.1, .int .i64 v.2.2.2.2.2.1], .rows Riiiii v.2.2.2.2.2.2.1, .cells [.int .i64 v.2.2.2.2.2.2.2.1, .int .i64 v.2.2.2.2.2.2.2.2.1, .int .i64 v.2.2.2.2.2.2.2.2.2.1], .rows Riii v.2.2.2.2.2.2.2.2.2.2]⟩
def race_Reigns_r12 (C : race_Reigns_C) (v : race_Reigns_Y11) : Dt race_Reigns_Y12 := (Dt.bnd (C.2.2.1 ((v.2.2.2.2.2.2.2.1, v.2.2.2.2.2.2.2.2.1, ()), (v.2.2.2.2.1, v.2.2.2.2.2.1, ()), ())) fun r1 => (Dt.ret (v.1, v.2.1, v.2.2.1, (!r1), v.2.2.2.2.1, v.2.2.2.2.2.1, v.2.2.2.2.2.2.1, v.2.2.2.2.2.2.2.1, v.2.2.2.2.2.2.2.2.1, v.2.2.2.2.2.2.2.2.2.1, v.2.2.2.2.2.2.2.2.2.2)))
theorem race_Reigns_g12 (C : race_Reigns_C) (v : race_Reigns_Y11) : treg tysT (orc (race_Reigns_tab C)) 62 (regO (bodyOf f29) 12) false [(5, .any), (11, (.own Riiiii)), (12, .any), (13, .any), (30, (.own Riii)), (31, .any), (32, .any), (43, .any)] (race_Reigns_S11 v) some = (race_Reigns_r12 C v).eval fun y => some (race_Reigns_S12 y) := by kernel_rfl
def race_Reigns_r16 (C : race_Reigns_C) (v : race_Reigns_Y8) : Dt race_Reigns_Y3 := (Dt.ret ((0:Int), v.2.2.2.2.1))
theorem race_Reigns_g16 (C : race_Reigns_C) (v : race_Reigns_Y8) : treg tysT (orc (race_Reigns_tab C)) 62 (regO (bodyOf f29) 16) false [(6, (.own Riiiii)), (7, .any)] (race_Reigns_S8 v) some = (race_Reigns_r16 C v).eval fun y => some (race_Reigns_S3 y) := by kernel_rfl
def race_Reigns_J1  (d : Nat)  (z : Int × Int × Int × Int × List Diiiii × List Diii) : Option (race_Reigns_R) :=
  (race_Reigns_r16 (race_Reigns_K d) z).eval fun y16 =>
  some (y16.2, y16.1)
abbrev race_Reigns_Y13 : Type := Int × Int × Int × Int × List Diiiii × Int × Int × Int × List Diii
def race_Reigns_S13 (v : race_Reigns_Y13) : St := ⟨[(5, .ptr 0 0), (11, .rs 1), (13, .ptr 2 0), (30, .rs 3), (31, .int .i64 v.1), (32, .int .i64 v.2.1)], [.cells [.int .i64 v.2.2.1, .int .i64 v.2.2.2.1], .rows Riiiii v.2.2.2.2.1, .cells [.int .i64 v.2.2.2.2.2.1, .int .i64 v.2.2.2.2.2.2.1, .int .i64 v.2.2.2.2.2.2.2.1], .rows Riii v.2.2.2.2.2.2.2.2]⟩
def race_Reigns_r13 (C : race_Reigns_C) (v : race_Reigns_Y12) : Dt race_Reigns_Y13 := (Dt.ite (inB (IntKind.wrap .i64 (v.1 - (1:Int))) (List.length v.2.2.2.2.2.2.1)) (Dt.ret (v.2.1, v.2.2.1, v.2.2.2.2.1, v.2.2.2.2.2.1, (List.set v.2.2.2.2.2.2.1 ((IntKind.wrap .i64 (v.1 - (1:Int)))).toNat ((elt ziiiii v.2.2.2.2.2.2.1 ((IntKind.wrap .i64 (v.1 - (1:Int)))).toNat).1, (elt ziiiii v.2.2.2.2.2.2.1 ((IntKind.wrap .i64 (v.1 - (1:Int)))).toNat).2.1, v.2.2.2.2.2.2.2.1, v.2.2.2.2.2.2.2.2.1, (elt ziiiii v.2.2.2.2.2.2.1 ((IntKind.wrap .i64 (v.1 - (1:Int)))).toNat).2.2.2.2.1, ())), v.2.2.2.2.2.2.2.1, v.2.2.2.2.2.2.2.2.1, v.2.2.2.2.2.2.2.2.2.1, v.2.2.2.2.2.2.2.2.2.2)) Dt.fail)
theorem race_Reigns_g13 (C : race_Reigns_C) (v : race_Reigns_Y12) : treg tysT (orc (race_Reigns_tab C)) 62 (regO (bodyOf f29) 13) false [(5, .any), (11, (.own Riiiii)), (13, .any), (30, (.own Riii)), (31, .any), (32, .any)] (race_Reigns_S12 v) some = (race_Reigns_r13 C v).eval fun y => some (race_Reigns_S13 y) := by kernel_rfl
def race_Reigns_r14 (C : race_Reigns_C) (v : race_Reigns_Y13) : Dt race_Reigns_Y8 := (Dt.ite (apB (List.length v.2.2.2.2.1) (List.length ([(v.2.2.2.2.2.1, v.2.2.2.2.2.2.1, v.2.2.1, v.2.2.2.1, v.2.2.2.2.2.2.2.1, ())] : List Diiiii))) (Dt.ret (v.1, v.2.1, v.2.2.1, v.2.2.2.1, (v.2.2.2.2.1 ++ ([(v.2.2.2.2.2.1, v.2.2.2.2.2.2.1, v.2.2.1, v.2.2.2.1, v.2.2.2.2.2.2.2.1, ())] : List Diiiii)), v.2.2.2.2.2.2.2.2)) Dt.fail)
theorem race_Reigns_g14 (C : race_Reigns_C) (v : race_Reigns_Y13) : treg tysT (orc (race_Reigns_tab C)) 62 (regO (bodyOf f29) 14) false [(5, .any), (11, (.own Riiiii)), (30, (.own Riii)), (31, .any), (32, .any)] (race_Reigns_S13 v) some = (race_Reigns_r14 C v).eval fun y => some (race_Reigns_S8 y) := by kernel_rfl
def race_Reigns_r15 (C : race_Reigns_C) (v : race_Reigns_Y8) : Dt race_Reigns_Y8 := (Dt.ret (v.1, (IntKind.wrap .i64 (v.2.1 + (1:Int))), v.2.2.1, v.2.2.2.1, v.2.2.2.2.1, v.2.2.2.2.2))
theorem race_Reigns_g15 (C : race_Reigns_C) (v : race_Reigns_Y8) : treg tysT (orc (race_Reigns_tab C)) 62 (regO (bodyOf f29) 15) false [(5, .any), (11, (.own Riiiii)), (30, (.own Riii)), (31, .any), (32, .any)] (race_Reigns_S8 v) some = (race_Reigns_r15 C v).eval fun y => some (race_Reigns_S8 y) := by kernel_rfl
def race_Reigns_J3  (d : Nat) (self2 : (Int × Int × Int × Int × List Diiiii × List Diii) → Option race_Reigns_R) (z : Int × Int × Int × Int × List Diiiii × Int × Int × Int × List Diii) : Option (race_Reigns_R) :=
  (race_Reigns_r14 (race_Reigns_K d) z).eval fun y14 =>
  (race_Reigns_r15 (race_Reigns_K d) y14).eval fun y15 =>
  self2 y15
def race_Reigns_L2 (d : Nat) (self2 : (Int × Int × Int × Int × List Diiiii × List Diii) → Option race_Reigns_R) (x2 : Int × Int × Int × Int × List Diiiii × List Diii) : Option race_Reigns_R :=
  (race_Reigns_r9 (race_Reigns_K d) x2).eval fun y9 =>
  bif y9.2.2.1 then ((race_Reigns_r10 (race_Reigns_K d) y9).eval fun y10 =>
  (race_Reigns_r11 (race_Reigns_K d) y10).eval fun y11 =>
  bif y11.2.2.2.1 then ((race_Reigns_r12 (race_Reigns_K d) y11).eval fun y12 =>
  bif y12.2.2.2.1 then (race_Reigns_J1 d  (y12.2.1, y12.2.2.1, y12.2.2.2.2.1, y12.2.2.2.2.2.1, y12.2.2.2.2.2.2.1, y12.2.2.2.2.2.2.2.2.2.2)) else ((race_Reigns_r13 (race_Reigns_K d) y12).eval fun y13 =>
  race_Reigns_J3 d self2 y13)) else (race_Reigns_J3 d self2 (y11.2.1, y11.2.2.1, y11.2.2.2.2.1, y11.2.2.2.2.2.1, y11.2.2.2.2.2.2.1, y11.2.2.2.2.2.2.2.1, y11.2.2.2.2.2.2.2.2.1, y11.2.2.2.2.2.2.2.2.2.1, y11.2.2.2.2.2.2.2.2.2.2))) else (race_Reigns_J1 d  (y9.1, y9.2.1, y9.2.2.2.1, y9.2.2.2.2.1, y9.2.2.2.2.2.1, y9.2.2.2.2.2.2))
def F_race_Reigns (d : Nat) (x : race_Reigns_X) : Option race_Reigns_R :=
  (race_Reigns_r0 (race_Reigns_K d) (x.1.1, x.2.1.1, x.2.1.2.1, x.2.2.1.1, x.2.2.1.2.1)).eval fun y0 =>
  (race_Reigns_r1 (race_Reigns_K d) y0).eval fun y1 =>
  (race_Reigns_r2 (race_Reigns_K d) y1).eval fun y2 =>
  bif y2.2.1 then ((race_Reigns_r3 (race_Reigns_K d) y2).eval fun y3 =>
  some (y3.2, y3.1)) else ((race_Reigns_r4 (race_Reigns_K d) y2).eval fun y4 =>
  (race_Reigns_r5 (race_Reigns_K d) y4).eval fun y5 =>
  bif y5.2.1 then ((race_Reigns_r6 (race_Reigns_K d) y5).eval fun y6 =>
  some (y6.2, y6.1)) else ((race_Reigns_r7 (race_Reigns_K d) y5).eval fun y7 =>
  (race_Reigns_r8 (race_Reigns_K d) y7).eval fun y8 =>
  iter (race_Reigns_L2 d ) d y8))
theorem race_Reigns_cok (d : Nat) : COK prog (race_Reigns_sp (F_race_Reigns d)) := by
  have hm : prog.follows .mixedOrders = true := mixed
  have hT := tys
  have hC0 : OrcOK prog (orc (race_Reigns_tab (race_Reigns_K d))) := orc_ok (by
    intro S hS
    simp only [race_Reigns_tab, List.mem_cons, List.not_mem_nil, or_false] at hS
    rcases hS with rfl | rfl | rfl
    · exact crest_Of_cok d
    · exact race_check_cok d
    · exact race_less_cok d)
  have hC : OrcOK prog (orc (race_Reigns_tab (race_Reigns_K d))) := hC0
  refine cok_of (c := bodyOf f29) (fn := f29) hT (by kernel_rfl) (by kernel_rfl) (by decide) fun x r h w0 φ0 Q hend => ?_
  replace h : F_race_Reigns d x = some r := h
  unfold F_race_Reigns at h
  show Run prog w0 φ0 62 (bodyOf f29) ⟨[(0, .agg [.fz Riii x.1.1]), (1, .agg [.int .i64 x.2.1.1, .int .i64 x.2.1.2.1]), (2, .agg [.int .i64 x.2.2.1.1, .int .i64 x.2.2.1.2.1])], []⟩ Q
  refine run_seq ?_
  refine run_reg hm hT hC (race_Reigns_g0 (race_Reigns_K d) (x.1.1, x.2.1.1, x.2.1.2.1, x.2.2.1.1, x.2.2.1.2.1)) h ?_
  intro y0 h
  refine cn_then ?_
  refine run_seq ?_
  refine run_seq ?_
  refine run_reg hm hT hC (race_Reigns_g1 (race_Reigns_K d) y0) h ?_
  intro y1 h
  refine cn_then ?_
  refine run_seq ?_
  refine run_reg hm hT hC (race_Reigns_g2 (race_Reigns_K d) y1) h ?_
  intro y2 h
  refine cn_then ?_
  refine run_cond (v := y2.2.1) (by kernel_rfl) h ?_ ?_
  ·
    intro h
    refine run_seq ?_
    refine run_reg hm hT hC (race_Reigns_g3 (race_Reigns_K d) y2) h ?_
    intro y3 h
    refine cn_then ?_
    refine run_ret ?_
    refine cn_then_ret ?_
    cases h
    exact (hend _ (by kernel_rfl)).2
  ·
    intro h
    refine run_skip ?_
    refine cn_then ?_
    refine run_seq ?_
    refine run_reg hm hT hC (race_Reigns_g4 (race_Reigns_K d) y2) h ?_
    intro y4 h
    refine cn_then ?_
    refine run_seq ?_
    refine run_seq ?_
    refine run_reg hm hT hC (race_Reigns_g5 (race_Reigns_K d) y4) h ?_
    intro y5 h
    refine cn_then ?_
    refine run_cond (v := y5.2.1) (by kernel_rfl) h ?_ ?_
    ·
      intro h
      refine run_seq ?_
      refine run_reg hm hT hC (race_Reigns_g6 (race_Reigns_K d) y5) h ?_
      intro y6 h
      refine cn_then ?_
      refine run_ret ?_
      refine cn_then_ret ?_
      cases h
      exact (hend _ (by kernel_rfl)).2
    ·
      intro h
      refine run_skip ?_
      refine cn_then ?_
      refine run_seq ?_
      refine run_reg hm hT hC (race_Reigns_g7 (race_Reigns_K d) y5) h ?_
      intro y7 h
      refine cn_then ?_
      refine run_join (r := r) (F := race_Reigns_J1 d ) (S := (fun z => ⟨[(5, .ptr 0 0), (11, .rs 1), (30, .rs 2), (31, .int .i64 z.1), (32, .int .i64 z.2.1)], [.cells [.int .i64 z.2.2.1, .int .i64 z.2.2.2.1], .rows Riiiii z.2.2.2.2.1, .rows Riii z.2.2.2.2.2]⟩ : Int × Int × Int × Int × List Diiiii × List Diii → St)) ?_ ?_
      ·
        intro z h
        unfold race_Reigns_J1 at h
        refine run_seq ?_
        refine run_reg hm hT hC (race_Reigns_g16 (race_Reigns_K d) z) h ?_
        intro y16 h
        refine cn_then ?_
        refine run_ret ?_
        cases h
        exact (hend _ (by kernel_rfl)).2
      intro hj1
      refine run_seq ?_
      refine run_reg hm hT hC (race_Reigns_g8 (race_Reigns_K d) y7) h ?_
      intro y8 h
      refine cn_then ?_
      refine run_block ?_
      refine run_loop (G := iter (race_Reigns_L2 d )) (S := (fun x2 => ⟨[(5, .ptr 0 0), (11, .rs 1), (30, .rs 2), (31, .int .i64 x2.1), (32, .int .i64 x2.2.1)], [.cells [.int .i64 x2.2.2.1, .int .i64 x2.2.2.2.1], .rows Riiiii x2.2.2.2.2.1, .rows Riii x2.2.2.2.2.2]⟩ : Int × Int × Int × Int × List Diiiii × List Diii → St)) (fun _ => rfl) ?_ d _ h
      intro n2 x2 h K2 hn2
      replace h : race_Reigns_L2 d  (iter (race_Reigns_L2 d ) n2) x2 = some r := h
      generalize iter (race_Reigns_L2 d ) n2 = self2 at h hn2
      unfold race_Reigns_L2 at h
      refine run_seq ?_
      refine run_reg hm hT hC (race_Reigns_g9 (race_Reigns_K d) x2) h ?_
      intro y9 h
      refine cn_then ?_
      refine run_seq ?_
      refine run_cond (v := y9.2.2.1) (by kernel_rfl) h ?_ ?_
      ·
        intro h
        refine run_skip ?_
        refine cn_then ?_
        refine run_seq ?_
        refine run_block ?_
        refine run_seq ?_
        refine run_reg hm hT hC (race_Reigns_g10 (race_Reigns_K d) y9) h ?_
        intro y10 h
        refine cn_then ?_
        refine run_join (r := r) (F := race_Reigns_J3 d self2) (S := (fun z => ⟨[(5, .ptr 0 0), (11, .rs 1), (13, .ptr 2 0), (30, .rs 3), (31, .int .i64 z.1), (32, .int .i64 z.2.1)], [.cells [.int .i64 z.2.2.1, .int .i64 z.2.2.2.1], .rows Riiiii z.2.2.2.2.1, .cells [.int .i64 z.2.2.2.2.2.1, .int .i64 z.2.2.2.2.2.2.1, .int .i64 z.2.2.2.2.2.2.2.1], .rows Riii z.2.2.2.2.2.2.2.2]⟩ : Int × Int × Int × Int × List Diiiii × Int × Int × Int × List Diii → St)) ?_ ?_
        ·
          intro z h
          unfold race_Reigns_J3 at h
          refine run_reg hm hT hC (race_Reigns_g14 (race_Reigns_K d) z) h ?_
          intro y14 h
          refine cn_blk ?_
          refine cn_then ?_
          refine run_reg hm hT hC (race_Reigns_g15 (race_Reigns_K d) y14) h ?_
          intro y15 h
          exact hn2 _ h
        intro hj3
        refine run_seq ?_
        refine run_reg hm hT hC (race_Reigns_g11 (race_Reigns_K d) y10) h ?_
        intro y11 h
        refine cn_then ?_
        refine run_cond (v := y11.2.2.2.1) (by kernel_rfl) h ?_ ?_
        ·
          intro h
          refine run_seq ?_
          refine run_seq ?_
          refine run_reg hm hT hC (race_Reigns_g12 (race_Reigns_K d) y11) h ?_
          intro y12 h
          refine cn_then ?_
          refine run_cond (v := y12.2.2.2.1) (by kernel_rfl) h ?_ ?_
          ·
            intro h
            refine run_exit ?_
            refine cn_then_exit ?_
            refine cn_then_exit ?_
            refine cn_blk_ne (by rfl) ?_
            refine cn_then_exit ?_
            refine cn_then_exit ?_
            refine cn_blk_eq ?_
            refine cn_num (s := ⟨[(5, .ptr 0 0), (11, .rs 1), (30, .rs 2), (31, .int .i64 y12.2.1), (32, .int .i64 y12.2.2.1)], [.cells [.int .i64 y12.2.2.2.2.1, .int .i64 y12.2.2.2.2.2.1], .rows Riiiii y12.2.2.2.2.2.2.1, .rows Riii y12.2.2.2.2.2.2.2.2.2.2]⟩) [12, 13, 43] (by kernel_rfl) ?_
            exact hj1 _ h
          ·
            intro h
            refine run_skip ?_
            refine cn_then ?_
            refine run_reg hm hT hC (race_Reigns_g13 (race_Reigns_K d) y12) h ?_
            intro y13 h
            exact hj3 _ h
        ·
          intro h
          refine run_skip ?_
          refine cn_num (s := ⟨[(5, .ptr 0 0), (11, .rs 1), (13, .ptr 2 0), (30, .rs 3), (31, .int .i64 y11.2.1), (32, .int .i64 y11.2.2.1)], [.cells [.int .i64 y11.2.2.2.2.1, .int .i64 y11.2.2.2.2.2.1], .rows Riiiii y11.2.2.2.2.2.2.1, .cells [.int .i64 y11.2.2.2.2.2.2.2.1, .int .i64 y11.2.2.2.2.2.2.2.2.1, .int .i64 y11.2.2.2.2.2.2.2.2.2.1], .rows Riii y11.2.2.2.2.2.2.2.2.2.2]⟩) [12, 38] (by kernel_rfl) ?_
          exact hj3 _ h
      ·
        intro h
        refine run_exit ?_
        refine cn_then_exit ?_
        refine cn_then_exit ?_
        refine cn_blk_eq ?_
        refine cn_num (s := ⟨[(5, .ptr 0 0), (11, .rs 1), (30, .rs 2), (31, .int .i64 y9.1), (32, .int .i64 y9.2.1)], [.cells [.int .i64 y9.2.2.2.1, .int .i64 y9.2.2.2.2.1], .rows Riiiii y9.2.2.2.2.2.1, .rows Riii y9.2.2.2.2.2.2]⟩) [33] (by kernel_rfl) ?_
        exact hj1 _ h
abbrev race_Laps_ps : List Pk := [.row RLiiiE true, .row Rii true, .row Rii true]
abbrev race_Laps_X : Type := DLiiiE × Dii × Dii × Unit
abbrev race_Laps_R : Type := Int × Int
def race_Laps_enc (r : race_Laps_R) : LV × List Ob := (.tup [.int .i64 r.1, .int .i64 r.2], [])
def race_Laps_sp (F : race_Laps_X → Option race_Laps_R) : Go.Tx.Spec := ⟨31, race_Laps_ps, race_Laps_R, F, race_Laps_enc⟩
abbrev race_Laps_C : Type := (crest_Of_X → Option crest_Of_R) × (race_check_X → Option race_check_R) × (race_less_X → Option race_less_R) × Unit
def race_Laps_K (d : Nat) : race_Laps_C := (F_crest_Of d, F_race_check d, F_race_less d, ())
def race_Laps_tab (C : race_Laps_C) : List Go.Tx.Spec := [crest_Of_sp C.1, race_check_sp C.2.1, race_less_sp C.2.2.1]
abbrev race_Laps_Y0i : Type := List Diii × Int × Int × Int × Int
def race_Laps_S0i (v : race_Laps_Y0i) : St := ⟨[(0, .agg [.fz Riii v.1]), (1, .agg [.int .i64 v.2.1, .int .i64 v.2.2.1]), (2, .agg [.int .i64 v.2.2.2.1, .int .i64 v.2.2.2.2])], []⟩
abbrev race_Laps_Y0 : Type := List Diii × Int × Int × Int × Int
def race_Laps_S0 (v : race_Laps_Y0) : St := ⟨[(3, .ptr 0 0), (4, .ptr 1 0), (5, .ptr 2 0)], [.cells [.fz Riii v.1], .cells [.int .i64 v.2.1, .int .i64 v.2.2.1], .cells [.int .i64 v.2.2.2.1, .int .i64 v.2.2.2.2]]⟩
def race_Laps_r0 (C : race_Laps_C) (v : race_Laps_Y0i) : Dt race_Laps_Y0 := (Dt.ret (v.1, v.2.1, v.2.2.1, v.2.2.2.1, v.2.2.2.2))
theorem race_Laps_g0 (C : race_Laps_C) (v : race_Laps_Y0i) : treg tysT (orc (race_Laps_tab C)) 46 (regO (bodyOf f31) 0) false [(3, (.box [.val Riii])), (4, .any), (5, .any)] (race_Laps_S0i v) some = (race_Laps_r0 C v).eval fun y => some (race_Laps_S0 y) := by kernel_rfl
abbrev race_Laps_Y1 : Type := Int × List Diii × Int × Int × Int × Int
def race_Laps_S1 (v : race_Laps_Y1) : St := ⟨[(3, .ptr 0 0), (4, .ptr 1 0), (5, .ptr 2 0), (8, .int .i64 v.1)], [.cells [.fz Riii v.2.1], .cells [.int .i64 v.2.2.1, .int .i64 v.2.2.2.1], .cells [.int .i64 v.2.2.2.2.1, .int .i64 v.2.2.2.2.2]]⟩
def race_Laps_r1 (C : race_Laps_C) (v : race_Laps_Y0) : Dt race_Laps_Y1 := (Dt.bnd (C.2.1 ((v.1, ()), (v.2.1, v.2.2.1, ()), (v.2.2.2.1, v.2.2.2.2, ()), ())) fun r1 => (Dt.ret (r1, v.1, v.2.1, v.2.2.1, v.2.2.2.1, v.2.2.2.2)))
theorem race_Laps_g1 (C : race_Laps_C) (v : race_Laps_Y0) : treg tysT (orc (race_Laps_tab C)) 46 (regO (bodyOf f31) 1) false [(3, (.box [.val Riii])), (4, .any), (5, .any), (8, .any)] (race_Laps_S0 v) some = (race_Laps_r1 C v).eval fun y => some (race_Laps_S1 y) := by kernel_rfl
abbrev race_Laps_Y2 : Type := Int × Bool × List Diii × Int × Int × Int × Int
def race_Laps_S2 (v : race_Laps_Y2) : St := ⟨[(3, .ptr 0 0), (4, .ptr 1 0), (5, .ptr 2 0), (8, .int .i64 v.1), (19, .bool v.2.1)], [.cells [.fz Riii v.2.2.1], .cells [.int .i64 v.2.2.2.1, .int .i64 v.2.2.2.2.1], .cells [.int .i64 v.2.2.2.2.2.1, .int .i64 v.2.2.2.2.2.2]]⟩
def race_Laps_r2 (C : race_Laps_C) (v : race_Laps_Y1) : Dt race_Laps_Y2 := (Dt.ret (v.1, (v.1 != (0:Int)), v.2.1, v.2.2.1, v.2.2.2.1, v.2.2.2.2.1, v.2.2.2.2.2))
theorem race_Laps_g2 (C : race_Laps_C) (v : race_Laps_Y1) : treg tysT (orc (race_Laps_tab C)) 46 (regO (bodyOf f31) 2) false [(3, (.box [.val Riii])), (4, .any), (5, .any), (8, .any), (19, .any)] (race_Laps_S1 v) some = (race_Laps_r2 C v).eval fun y => some (race_Laps_S2 y) := by kernel_rfl
abbrev race_Laps_Y3 : Type := Int × Int
def race_Laps_S3 (v : race_Laps_Y3) : St := ⟨[(6, .int .i64 v.1), (7, .int .i64 v.2)], []⟩
def race_Laps_r3 (C : race_Laps_C) (v : race_Laps_Y2) : Dt race_Laps_Y3 := (Dt.ret ((0:Int), v.1))
theorem race_Laps_g3 (C : race_Laps_C) (v : race_Laps_Y2) : treg tysT (orc (race_Laps_tab C)) 46 (regO (bodyOf f31) 3) false [(6, .any), (7, .any)] (race_Laps_S2 v) some = (race_Laps_r3 C v).eval fun y => some (race_Laps_S3 y) := by kernel_rfl
abbrev race_Laps_Y4 : Type := Int × Int × Int × List Diii
def race_Laps_S4 (v : race_Laps_Y4) : St := ⟨[(5, .ptr 0 0), (9, .rs 1), (10, .int .i64 v.1)], [.cells [.int .i64 v.2.1, .int .i64 v.2.2.1], .rows Riii v.2.2.2]⟩
def race_Laps_r4 (C : race_Laps_C) (v : race_Laps_Y2) : Dt race_Laps_Y4 := (Dt.bnd (C.1 ((v.2.2.1, ()), (v.2.2.2.1, v.2.2.2.2.1, ()), ())) fun r1 => (Dt.ret (r1.2, v.2.2.2.2.2.1, v.2.2.2.2.2.2, r1.1)))
theorem race_Laps_g4 (C : race_Laps_C) (v : race_Laps_Y2) : treg tysT (orc (race_Laps_tab C)) 46 (regO (bodyOf f31) 4) false [(5, .any), (9, (.own Riii)), (10, .any)] (race_Laps_S2 v) some = (race_Laps_r4 C v).eval fun y => some (race_Laps_S4 y) := by kernel_rfl
abbrev race_Laps_Y5 : Type := Int × Bool × Int × Int × List Diii
def race_Laps_S5 (v : race_Laps_Y5) : St := ⟨[(5, .ptr 0 0), (9, .rs 1), (10, .int .i64 v.1), (28, .bool v.2.1)], [.cells [.int .i64 v.2.2.1, .int .i64 v.2.2.2.1], .rows Riii v.2.2.2.2]⟩
def race_Laps_r5 (C : race_Laps_C) (v : race_Laps_Y4) : Dt race_Laps_Y5 := (Dt.ret (v.1, (v.1 != (0:Int)), v.2.1, v.2.2.1, v.2.2.2))
theorem race_Laps_g5 (C : race_Laps_C) (v : race_Laps_Y4) : treg tysT (orc (race_Laps_tab C)) 46 (regO (bodyOf f31) 5) false [(5, .any), (9, (.own Riii)), (10, .any), (28, .any)] (race_Laps_S4 v) some = (race_Laps_r5 C v).eval fun y => some (race_Laps_S5 y) := by kernel_rfl
def race_Laps_r6 (C : race_Laps_C) (v : race_Laps_Y5) : Dt race_Laps_Y3 := (Dt.ret ((0:Int), v.1))
theorem race_Laps_g6 (C : race_Laps_C) (v : race_Laps_Y5) : treg tysT (orc (race_Laps_tab C)) 46 (regO (bodyOf f31) 6) false [(6, .any), (7, .any)] (race_Laps_S5 v) some = (race_Laps_r6 C v).eval fun y => some (race_Laps_S3 y) := by kernel_rfl
abbrev race_Laps_Y7 : Type := Int × Int × Int × List Diii
def race_Laps_S7 (v : race_Laps_Y7) : St := ⟨[(5, .ptr 0 0), (9, .rs 1), (11, .int .i64 v.1)], [.cells [.int .i64 v.2.1, .int .i64 v.2.2.1], .rows Riii v.2.2.2]⟩
def race_Laps_r7 (C : race_Laps_C) (v : race_Laps_Y5) : Dt race_Laps_Y7 := (Dt.ret ((0:Int), v.2.2.1, v.2.2.2.1, v.2.2.2.2))
theorem race_Laps_g7 (C : race_Laps_C) (v : race_Laps_Y5) : treg tysT (orc (race_Laps_tab C)) 46 (regO (bodyOf f31) 7) false [(5, .any), (9, (.own Riii)), (11, .any)] (race_Laps_S5 v) some = (race_Laps_r7 C v).eval fun y => some (race_Laps_S7 y) := by kernel_rfl
abbrev race_Laps_Y8 : Type := Int × List Diii × Int × Int × Int × Int
def race_Laps_S8 (v : race_Laps_Y8) : St := ⟨[(5, .ptr 0 0), (11, .int .i64 v.1), (31, .fz Riii v.2.1), (32, .int .i64 v.2.2.1), (33, .int .i64 v.2.2.2.1)], [.cells [.int .i64 v.2.2.2.2.1, .int .i64 v.2.2.2.2.2]]⟩
def race_Laps_r8 (C : race_Laps_C) (v : race_Laps_Y7) : Dt race_Laps_Y8 := (Dt.ite (decide (0 ≤ (1:Int)) && decide ((1:Int) ≤ (List.length v.2.2.2 : Int))) (Dt.ret (v.1, (List.drop ((1:Int)).toNat v.2.2.2), (List.length (List.drop ((1:Int)).toNat v.2.2.2) : Int), (0:Int), v.2.1, v.2.2.1)) Dt.fail)
theorem race_Laps_g8 (C : race_Laps_C) (v : race_Laps_Y7) : treg tysT (orc (race_Laps_tab C)) 46 (regO (bodyOf f31) 8) false [(5, .any), (11, .any), (31, (.val Riii)), (32, .any), (33, .any)] (race_Laps_S7 v) some = (race_Laps_r8 C v).eval fun y => some (race_Laps_S8 y) := by kernel_rfl
abbrev race_Laps_Y9 : Type := Int × List Diii × Int × Int × Bool × Int × Int
def race_Laps_S9 (v : race_Laps_Y9) : St := ⟨[(5, .ptr 0 0), (11, .int .i64 v.1), (31, .fz Riii v.2.1), (32, .int .i64 v.2.2.1), (33, .int .i64 v.2.2.2.1), (34, .bool v.2.2.2.2.1)], [.cells [.int .i64 v.2.2.2.2.2.1, .int .i64 v.2.2.2.2.2.2]]⟩
def race_Laps_r9 (C : race_Laps_C) (v : race_Laps_Y8) : Dt race_Laps_Y9 := (Dt.ret (v.1, v.2.1, v.2.2.1, v.2.2.2.1, (decide (v.2.2.2.1 < v.2.2.1)), v.2.2.2.2.1, v.2.2.2.2.2))
theorem race_Laps_g9 (C : race_Laps_C) (v : race_Laps_Y8) : treg tysT (orc (race_Laps_tab C)) 46 (regO (bodyOf f31) 9) false [(5, .any), (11, .any), (31, (.val Riii)), (32, .any), (33, .any), (34, .any)] (race_Laps_S8 v) some = (race_Laps_r9 C v).eval fun y => some (race_Laps_S9 y) := by kernel_rfl
abbrev race_Laps_Y10 : Type := Int × List Diii × Int × Int × Int × Int × Int × Int × Int
def race_Laps_S10 (v : race_Laps_Y10) : St := ⟨[(5, .ptr 0 0), (11, .int .i64 v.1), (13, .ptr 1 0), (31, .fz Riii v.2.1), (32, .int .i64 v.2.2.1), (33, .int .i64 v.2.2.2.1)], [.cells [.int .i64 v.2.2.2.2.1, .int .i64 v.2.2.2.2.2.1], .cells [.int .i64 v.2.2.2.2.2.2.1, .int .i64 v.2.2.2.2.2.2.2.1, .int .i64 v.2.2.2.2.2.2.2.2]]⟩
def race_Laps_r10 (C : race_Laps_C) (v : race_Laps_Y9) : Dt race_Laps_Y10 := (Dt.ite (inB v.2.2.2.1 (List.length v.2.1)) (Dt.ret (v.1, v.2.1, v.2.2.1, v.2.2.2.1, v.2.2.2.2.2.1, v.2.2.2.2.2.2, (elt ziii v.2.1 (v.2.2.2.1).toNat).1, (elt ziii v.2.1 (v.2.2.2.1).toNat).2.1, (elt ziii v.2.1 (v.2.2.2.1).toNat).2.2.1)) Dt.fail)
theorem race_Laps_g10 (C : race_Laps_C) (v : race_Laps_Y9) : treg tysT (orc (race_Laps_tab C)) 46 (regO (bodyOf f31) 10) false [(5, .any), (11, .any), (13, .any), (31, (.val Riii)), (32, .any), (33, .any)] (race_Laps_S9 v) some = (race_Laps_r10 C v).eval fun y => some (race_Laps_S10 y) := by kernel_rfl
abbrev race_Laps_Y11 : Type := Int × List Diii × Int × Int × Bool × Int × Int
def race_Laps_S11 (v : race_Laps_Y11) : St := ⟨[(5, .ptr 0 0), (11, .int .i64 v.1), (31, .fz Riii v.2.1), (32, .int .i64 v.2.2.1), (33, .int .i64 v.2.2.2.1), (41, .bool v.2.2.2.2.1)], [.cells [.int .i64 v.2.2.2.2.2.1, .int .i64 v.2.2.2.2.2.2]]⟩
def race_Laps_r11 (C : race_Laps_C) (v : race_Laps_Y10) : Dt race_Laps_Y11 := (Dt.bnd (C.2.2.1 ((v.2.2.2.2.1, v.2.2.2.2.2.1, ()), (v.2.2.2.2.2.2.1, v.2.2.2.2.2.2.2.1, ()), ())) fun r1 => (Dt.ret (v.1, v.2.1, v.2.2.1, v.2.2.2.1, (!r1), v.2.2.2.2.1, v.2.2.2.2.2.1)))
theorem race_Laps_g11 (C : race_Laps_C) (v : race_Laps_Y10) : treg tysT (orc (race_Laps_tab C)) 46 (regO (bodyOf f31) 11) false [(5, .any), (11, .any), (31, (.val Riii)), (32, .any), (33, .any), (41, .any)] (race_Laps_S10 v) some = (race_Laps_r11 C v).eval fun y => some (race_Laps_S11 y) := by kernel_rfl
def race_Laps_r12 (C : race_Laps_C) (v : race_Laps_Y11) : Dt race_Laps_Y8 := (Dt.ret ((IntKind.wrap .i64 (v.1 + (1:Int))), v.2.1, v.2.2.1, v.2.2.2.1, v.2.2.2.2.2.1, v.2.2.2.2.2.2))
theorem race_Laps_g12 (C : race_Laps_C) (v : race_Laps_Y11) : treg tysT (orc (race_Laps_tab C)) 46 (regO (bodyOf f31) 12) false [(5, .any), (11, .any), (31, (.val Riii)), (32, .any), (33, .any)] (race_Laps_S11 v) some = (race_Laps_r12 C v).eval fun y => some (race_Laps_S8 y) := by kernel_rfl
def race_Laps_r13 (C : race_Laps_C) (v : race_Laps_Y8) : Dt race_Laps_Y8 := (Dt.ret (v.1, v.2.1, v.2.2.1, (IntKind.wrap .i64 (v.2.2.2.1 + (1:Int))), v.2.2.2.2.1, v.2.2.2.2.2))
theorem race_Laps_g13 (C : race_Laps_C) (v : race_Laps_Y8) : treg tysT (orc (race_Laps_tab C)) 46 (regO (bodyOf f31) 13) false [(5, .any), (11, .any), (31, (.val Riii)), (32, .any), (33, .any)] (race_Laps_S8 v) some = (race_Laps_r13 C v).eval fun y => some (race_Laps_S8 y) := by kernel_rfl
def race_Laps_J2  (d : Nat) (self1 : (Int × List Diii × Int × Int × Int × Int) → Option race_Laps_R) (z : Int × List Diii × Int × Int × Int × Int) : Option (race_Laps_R) :=
  (race_Laps_r13 (race_Laps_K d) z).eval fun y13 =>
  self1 y13
def race_Laps_r14 (C : race_Laps_C) (v : race_Laps_Y9) : Dt race_Laps_Y3 := (Dt.ret (v.1, (0:Int)))
theorem race_Laps_g14 (C : race_Laps_C) (v : race_Laps_Y9) : treg tysT (orc (race_Laps_tab C)) 46 (regO (bodyOf f31) 14) false [(6, .any), (7, .any)] (race_Laps_S9 v) some = (race_Laps_r14 C v).eval fun y => some (race_Laps_S3 y) := by kernel_rfl
def race_Laps_L1 (d : Nat) (self1 : (Int × List Diii × Int × Int × Int × Int) → Option race_Laps_R) (x1 : Int × List Diii × Int × Int × Int × Int) : Option race_Laps_R :=
  (race_Laps_r9 (race_Laps_K d) x1).eval fun y9 =>
  bif y9.2.2.2.2.1 then ((race_Laps_r10 (race_Laps_K d) y9).eval fun y10 =>
  (race_Laps_r11 (race_Laps_K d) y10).eval fun y11 =>
  bif y11.2.2.2.2.1 then ((race_Laps_r12 (race_Laps_K d) y11).eval fun y12 =>
  race_Laps_J2 d self1 y12) else (race_Laps_J2 d self1 (y11.1, y11.2.1, y11.2.2.1, y11.2.2.2.1, y11.2.2.2.2.2.1, y11.2.2.2.2.2.2))) else ((race_Laps_r14 (race_Laps_K d) y9).eval fun y14 =>
  some y14)
def F_race_Laps (d : Nat) (x : race_Laps_X) : Option race_Laps_R :=
  (race_Laps_r0 (race_Laps_K d) (x.1.1, x.2.1.1, x.2.1.2.1, x.2.2.1.1, x.2.2.1.2.1)).eval fun y0 =>
  (race_Laps_r1 (race_Laps_K d) y0).eval fun y1 =>
  (race_Laps_r2 (race_Laps_K d) y1).eval fun y2 =>
  bif y2.2.1 then ((race_Laps_r3 (race_Laps_K d) y2).eval fun y3 =>
  some y3) else ((race_Laps_r4 (race_Laps_K d) y2).eval fun y4 =>
  (race_Laps_r5 (race_Laps_K d) y4).eval fun y5 =>
  bif y5.2.1 then ((race_Laps_r6 (race_Laps_K d) y5).eval fun y6 =>
  some y6) else ((race_Laps_r7 (race_Laps_K d) y5).eval fun y7 =>
  (race_Laps_r8 (race_Laps_K d) y7).eval fun y8 =>
  iter (race_Laps_L1 d ) d y8))
theorem race_Laps_cok (d : Nat) : COK prog (race_Laps_sp (F_race_Laps d)) := by
  have hm : prog.follows .mixedOrders = true := mixed
  have hT := tys
  have hC0 : OrcOK prog (orc (race_Laps_tab (race_Laps_K d))) := orc_ok (by
    intro S hS
    simp only [race_Laps_tab, List.mem_cons, List.not_mem_nil, or_false] at hS
    rcases hS with rfl | rfl | rfl
    · exact crest_Of_cok d
    · exact race_check_cok d
    · exact race_less_cok d)
  have hC : OrcOK prog (orc (race_Laps_tab (race_Laps_K d))) := hC0
  refine cok_of (c := bodyOf f31) (fn := f31) hT (by kernel_rfl) (by kernel_rfl) (by decide) fun x r h w0 φ0 Q hend => ?_
  replace h : F_race_Laps d x = some r := h
  unfold F_race_Laps at h
  show Run prog w0 φ0 46 (bodyOf f31) ⟨[(0, .agg [.fz Riii x.1.1]), (1, .agg [.int .i64 x.2.1.1, .int .i64 x.2.1.2.1]), (2, .agg [.int .i64 x.2.2.1.1, .int .i64 x.2.2.1.2.1])], []⟩ Q
  refine run_seq ?_
  refine run_reg hm hT hC (race_Laps_g0 (race_Laps_K d) (x.1.1, x.2.1.1, x.2.1.2.1, x.2.2.1.1, x.2.2.1.2.1)) h ?_
  intro y0 h
  refine cn_then ?_
  refine run_seq ?_
  refine run_seq ?_
  refine run_reg hm hT hC (race_Laps_g1 (race_Laps_K d) y0) h ?_
  intro y1 h
  refine cn_then ?_
  refine run_seq ?_
  refine run_reg hm hT hC (race_Laps_g2 (race_Laps_K d) y1) h ?_
  intro y2 h
  refine cn_then ?_
  refine run_cond (v := y2.2.1) (by kernel_rfl) h ?_ ?_
  ·
    intro h
    refine run_seq ?_
    refine run_reg hm hT hC (race_Laps_g3 (race_Laps_K d) y2) h ?_
    intro y3 h
    refine cn_then ?_
    refine run_ret ?_
    refine cn_then_ret ?_
    cases h
    exact (hend _ (by kernel_rfl)).2
  ·
    intro h
    refine run_skip ?_
    refine cn_then ?_
    refine run_seq ?_
    refine run_reg hm hT hC (race_Laps_g4 (race_Laps_K d) y2) h ?_
    intro y4 h
    refine cn_then ?_
    refine run_seq ?_
    refine run_seq ?_
    refine run_reg hm hT hC (race_Laps_g5 (race_Laps_K d) y4) h ?_
    intro y5 h
    refine cn_then ?_
    refine run_cond (v := y5.2.1) (by kernel_rfl) h ?_ ?_
    ·
      intro h
      refine run_seq ?_
      refine run_reg hm hT hC (race_Laps_g6 (race_Laps_K d) y5) h ?_
      intro y6 h
      refine cn_then ?_
      refine run_ret ?_
      refine cn_then_ret ?_
      cases h
      exact (hend _ (by kernel_rfl)).2
    ·
      intro h
      refine run_skip ?_
      refine cn_then ?_
      refine run_seq ?_
      refine run_reg hm hT hC (race_Laps_g7 (race_Laps_K d) y5) h ?_
      intro y7 h
      refine cn_then ?_
      refine run_seq ?_
      refine run_seq ?_
      refine run_reg hm hT hC (race_Laps_g8 (race_Laps_K d) y7) h ?_
      intro y8 h
      refine cn_then ?_
      refine run_block ?_
      refine run_loop (G := iter (race_Laps_L1 d )) (S := (fun x1 => ⟨[(5, .ptr 0 0), (11, .int .i64 x1.1), (31, .fz Riii x1.2.1), (32, .int .i64 x1.2.2.1), (33, .int .i64 x1.2.2.2.1)], [.cells [.int .i64 x1.2.2.2.2.1, .int .i64 x1.2.2.2.2.2]]⟩ : Int × List Diii × Int × Int × Int × Int → St)) (fun _ => rfl) ?_ d _ h
      intro n1 x1 h K1 hn1
      replace h : race_Laps_L1 d  (iter (race_Laps_L1 d ) n1) x1 = some r := h
      generalize iter (race_Laps_L1 d ) n1 = self1 at h hn1
      unfold race_Laps_L1 at h
      refine run_seq ?_
      refine run_reg hm hT hC (race_Laps_g9 (race_Laps_K d) x1) h ?_
      intro y9 h
      refine cn_then ?_
      refine run_seq ?_
      refine run_cond (v := y9.2.2.2.2.1) (by kernel_rfl) h ?_ ?_
      ·
        intro h
        refine run_skip ?_
        refine cn_then ?_
        refine run_join (r := r) (F := race_Laps_J2 d self1) (S := (fun z => ⟨[(5, .ptr 0 0), (11, .int .i64 z.1), (31, .fz Riii z.2.1), (32, .int .i64 z.2.2.1), (33, .int .i64 z.2.2.2.1)], [.cells [.int .i64 z.2.2.2.2.1, .int .i64 z.2.2.2.2.2]]⟩ : Int × List Diii × Int × Int × Int × Int → St)) ?_ ?_
        ·
          intro z h
          unfold race_Laps_J2 at h
          refine run_reg hm hT hC (race_Laps_g13 (race_Laps_K d) z) h ?_
          intro y13 h
          exact hn1 _ h
        intro hj2
        refine run_block ?_
        refine run_seq ?_
        refine run_reg hm hT hC (race_Laps_g10 (race_Laps_K d) y9) h ?_
        intro y10 h
        refine cn_then ?_
        refine run_seq ?_
        refine run_reg hm hT hC (race_Laps_g11 (race_Laps_K d) y10) h ?_
        intro y11 h
        refine cn_then ?_
        refine run_cond (v := y11.2.2.2.2.1) (by kernel_rfl) h ?_ ?_
        ·
          intro h
          refine run_reg hm hT hC (race_Laps_g12 (race_Laps_K d) y11) h ?_
          intro y12 h
          refine cn_blk ?_
          exact hj2 _ h
        ·
          intro h
          refine run_skip ?_
          refine cn_blk ?_
          refine cn_num (s := ⟨[(5, .ptr 0 0), (11, .int .i64 y11.1), (31, .fz Riii y11.2.1), (32, .int .i64 y11.2.2.1), (33, .int .i64 y11.2.2.2.1)], [.cells [.int .i64 y11.2.2.2.2.2.1, .int .i64 y11.2.2.2.2.2.2]]⟩) [41] (by kernel_rfl) ?_
          exact hj2 _ h
      ·
        intro h
        refine run_exit ?_
        refine cn_then_exit ?_
        refine cn_then_exit ?_
        refine cn_blk_eq ?_
        refine cn_then ?_
        refine run_seq ?_
        refine run_reg hm hT hC (race_Laps_g14 (race_Laps_K d) y9) h ?_
        intro y14 h
        refine cn_then ?_
        refine run_ret ?_
        cases h
        exact (hend _ (by kernel_rfl)).2
abbrev race_Check_ps : List Pk := [.row RLiiiiiE false]
abbrev race_Check_X : Type := DLiiiiiE × Unit
abbrev race_Check_R : Type := Int
def race_Check_enc (r : race_Check_R) : LV × List Ob := (.int .i64 r, [])
def race_Check_sp (F : race_Check_X → Option race_Check_R) : Go.Tx.Spec := ⟨34, race_Check_ps, race_Check_R, F, race_Check_enc⟩
abbrev race_Check_C : Type := (ratio_Check_X → Option ratio_Check_R) × (race_less_X → Option race_less_R) × Unit
def race_Check_K (d : Nat) : race_Check_C := (F_ratio_Check d, F_race_less d, ())
def race_Check_tab (C : race_Check_C) : List Go.Tx.Spec := [ratio_Check_sp C.1, race_less_sp C.2.1]
abbrev race_Check_Y0i : Type := List Diiiii
def race_Check_S0i (v : race_Check_Y0i) : St := ⟨[(0, .fz Riiiii v)], []⟩
def race_Check_r0 (C : race_Check_C) (v : race_Check_Y0i) : Dt race_Check_Y0i := (Dt.ret v)
theorem race_Check_g0 (C : race_Check_C) (v : race_Check_Y0i) : treg tysT (orc (race_Check_tab C)) 82 (regO (bodyOf f34) 0) false [(0, (.val Riiiii))] (race_Check_S0i v) some = (race_Check_r0 C v).eval fun y => some (race_Check_S0i y) := by kernel_rfl
abbrev race_Check_Y1 : Type := List Diiiii × Bool
def race_Check_S1 (v : race_Check_Y1) : St := ⟨[(0, .fz Riiiii v.1), (12, .bool v.2)], []⟩
def race_Check_r1 (C : race_Check_C) (v : race_Check_Y0i) : Dt race_Check_Y1 := (Dt.ite (decide ((List.length v : Int) < (1:Int))) (Dt.ret (v, true)) (Dt.ret (v, (decide ((List.length v : Int) > (300:Int))))))
theorem race_Check_g1 (C : race_Check_C) (v : race_Check_Y0i) : treg tysT (orc (race_Check_tab C)) 82 (regO (bodyOf f34) 1) false [(0, (.val Riiiii)), (12, .any)] (race_Check_S0i v) some = (race_Check_r1 C v).eval fun y => some (race_Check_S1 y) := by kernel_rfl
abbrev race_Check_Y2 : Type := Int
def race_Check_S2 (v : race_Check_Y2) : St := ⟨[(2, .int .i64 v)], []⟩
def race_Check_r2 (C : race_Check_C) (v : race_Check_Y1) : Dt race_Check_Y2 := (Dt.ret (8:Int))
theorem race_Check_g2 (C : race_Check_C) (v : race_Check_Y1) : treg tysT (orc (race_Check_tab C)) 82 (regO (bodyOf f34) 2) false [(2, .any)] (race_Check_S1 v) some = (race_Check_r2 C v).eval fun y => some (race_Check_S2 y) := by kernel_rfl
abbrev race_Check_Y3 : Type := List Diiiii × List Diiiii × Int × Int
def race_Check_S3 (v : race_Check_Y3) : St := ⟨[(0, .fz Riiiii v.1), (13, .fz Riiiii v.2.1), (14, .int .i64 v.2.2.1), (15, .int .i64 v.2.2.2)], []⟩
def race_Check_r3 (C : race_Check_C) (v : race_Check_Y1) : Dt race_Check_Y3 := (Dt.ret (v.1, v.1, (List.length v.1 : Int), (0:Int)))
theorem race_Check_g3 (C : race_Check_C) (v : race_Check_Y1) : treg tysT (orc (race_Check_tab C)) 82 (regO (bodyOf f34) 3) false [(0, (.val Riiiii)), (13, (.val Riiiii)), (14, .any), (15, .any)] (race_Check_S1 v) some = (race_Check_r3 C v).eval fun y => some (race_Check_S3 y) := by kernel_rfl
abbrev race_Check_Y4 : Type := List Diiiii × List Diiiii × Int × Int × Bool
def race_Check_S4 (v : race_Check_Y4) : St := ⟨[(0, .fz Riiiii v.1), (13, .fz Riiiii v.2.1), (14, .int .i64 v.2.2.1), (15, .int .i64 v.2.2.2.1), (16, .bool v.2.2.2.2)], []⟩
def race_Check_r4 (C : race_Check_C) (v : race_Check_Y3) : Dt race_Check_Y4 := (Dt.ret (v.1, v.2.1, v.2.2.1, v.2.2.2, (decide (v.2.2.2 < v.2.2.1))))
theorem race_Check_g4 (C : race_Check_C) (v : race_Check_Y3) : treg tysT (orc (race_Check_tab C)) 82 (regO (bodyOf f34) 4) false [(0, (.val Riiiii)), (13, (.val Riiiii)), (14, .any), (15, .any), (16, .any)] (race_Check_S3 v) some = (race_Check_r4 C v).eval fun y => some (race_Check_S4 y) := by kernel_rfl
abbrev race_Check_Y5 : Type := List Diiiii × Int × List Diiiii × Int × Int × Int × Int × Int × Int × Int
def race_Check_S5 (v : race_Check_Y5) : St := ⟨[(0, .fz Riiiii v.1), (3, .int .i64 v.2.1), (4, .ptr 0 0), (13, .fz Riiiii v.2.2.1), (14, .int .i64 v.2.2.2.1), (15, .int .i64 v.2.2.2.2.1)], [.cells [.int .i64 v.2.2.2.2.2.1, .int .i64 v.2.2.2.2.2.2.1, .int .i64 v.2.2.2.2.2.2.2.1, .int .i64 v.2.2.2.2.2.2.2.2.1, .int .i64 v.2.2.2.2.2.2.2.2.2]]⟩
def race_Check_r5 (C : race_Check_C) (v : race_Check_Y4) : Dt race_Check_Y5 := (Dt.ite (inB v.2.2.2.1 (List.length v.2.1)) (Dt.ret (v.1, v.2.2.2.1, v.2.1, v.2.2.1, v.2.2.2.1, (elt ziiiii v.2.1 (v.2.2.2.1).toNat).1, (elt ziiiii v.2.1 (v.2.2.2.1).toNat).2.1, (elt ziiiii v.2.1 (v.2.2.2.1).toNat).2.2.1, (elt ziiiii v.2.1 (v.2.2.2.1).toNat).2.2.2.1, (elt ziiiii v.2.1 (v.2.2.2.1).toNat).2.2.2.2.1)) Dt.fail)
theorem race_Check_g5 (C : race_Check_C) (v : race_Check_Y4) : treg tysT (orc (race_Check_tab C)) 82 (regO (bodyOf f34) 5) false [(0, (.val Riiiii)), (3, .any), (4, .any), (13, (.val Riiiii)), (14, .any), (15, .any)] (race_Check_S4 v) some = (race_Check_r5 C v).eval fun y => some (race_Check_S5 y) := by kernel_rfl
abbrev race_Check_Y6 : Type := List Diiiii × Int × List Diiiii × Int × Int × Bool × Int × Int × Int × Int × Int
def race_Check_S6 (v : race_Check_Y6) : St := ⟨[(0, .fz Riiiii v.1), (3, .int .i64 v.2.1), (4, .ptr 0 0), (13, .fz Riiiii v.2.2.1), (14, .int .i64 v.2.2.2.1), (15, .int .i64 v.2.2.2.2.1), (39, .bool v.2.2.2.2.2.1)], [.cells [.int .i64 v.2.2.2.2.2.2.1, .int .i64 v.2.2.2.2.2.2.2.1, .int .i64 v.2.2.2.2.2.2.2.2.1, .int .i64 v.2.2.2.2.2.2.2.2.2.1, .int .i64 v.2.2.2.2.2.2.2.2.2.2]]⟩
def race_Check_r6 (C : race_Check_C) (v : race_Check_Y5) : Dt race_Check_Y6 := (Dt.bnd (C.1 ((v.2.2.2.2.2.1, v.2.2.2.2.2.2.1, ()), ())) fun r1 => (Dt.ite (r1 != (0:Int)) (Dt.ret (v.1, v.2.1, v.2.2.1, v.2.2.2.1, v.2.2.2.2.1, true, v.2.2.2.2.2.1, v.2.2.2.2.2.2.1, v.2.2.2.2.2.2.2.1, v.2.2.2.2.2.2.2.2.1, v.2.2.2.2.2.2.2.2.2)) (Dt.bnd (C.1 ((v.2.2.2.2.2.2.2.1, v.2.2.2.2.2.2.2.2.1, ()), ())) fun r2 => (Dt.ite (r2 != (0:Int)) (Dt.ret (v.1, v.2.1, v.2.2.1, v.2.2.2.1, v.2.2.2.2.1, true, v.2.2.2.2.2.1, v.2.2.2.2.2.2.1, v.2.2.2.2.2.2.2.1, v.2.2.2.2.2.2.2.2.1, v.2.2.2.2.2.2.2.2.2)) (Dt.ite (decide (v.2.2.2.2.2.2.2.2.2 < (0:Int))) (Dt.ret (v.1, v.2.1, v.2.2.1, v.2.2.2.1, v.2.2.2.2.1, true, v.2.2.2.2.2.1, v.2.2.2.2.2.2.1, v.2.2.2.2.2.2.2.1, v.2.2.2.2.2.2.2.2.1, v.2.2.2.2.2.2.2.2.2)) (Dt.ret (v.1, v.2.1, v.2.2.1, v.2.2.2.1, v.2.2.2.2.1, (decide (v.2.2.2.2.2.2.2.2.2 > (65535:Int))), v.2.2.2.2.2.1, v.2.2.2.2.2.2.1, v.2.2.2.2.2.2.2.1, v.2.2.2.2.2.2.2.2.1, v.2.2.2.2.2.2.2.2.2)))))))
theorem race_Check_g6 (C : race_Check_C) (v : race_Check_Y5) : treg tysT (orc (race_Check_tab C)) 82 (regO (bodyOf f34) 6) false [(0, (.val Riiiii)), (3, .any), (4, .any), (13, (.val Riiiii)), (14, .any), (15, .any), (39, .any)] (race_Check_S5 v) some = (race_Check_r6 C v).eval fun y => some (race_Check_S6 y) := by kernel_rfl
def race_Check_r7 (C : race_Check_C) (v : race_Check_Y6) : Dt race_Check_Y2 := (Dt.ret (8:Int))
theorem race_Check_g7 (C : race_Check_C) (v : race_Check_Y6) : treg tysT (orc (race_Check_tab C)) 82 (regO (bodyOf f34) 7) false [(2, .any)] (race_Check_S6 v) some = (race_Check_r7 C v).eval fun y => some (race_Check_S2 y) := by kernel_rfl
abbrev race_Check_Y8 : Type := List Diiiii × Int × List Diiiii × Int × Int × Bool × Int × Int × Int × Int × Int
def race_Check_S8 (v : race_Check_Y8) : St := ⟨[(0, .fz Riiiii v.1), (3, .int .i64 v.2.1), (4, .ptr 0 0), (13, .fz Riiiii v.2.2.1), (14, .int .i64 v.2.2.2.1), (15, .int .i64 v.2.2.2.2.1), (56, .bool v.2.2.2.2.2.1)], [.cells [.int .i64 v.2.2.2.2.2.2.1, .int .i64 v.2.2.2.2.2.2.2.1, .int .i64 v.2.2.2.2.2.2.2.2.1, .int .i64 v.2.2.2.2.2.2.2.2.2.1, .int .i64 v.2.2.2.2.2.2.2.2.2.2]]⟩
def race_Check_r8 (C : race_Check_C) (v : race_Check_Y6) : Dt race_Check_Y8 := (Dt.bnd (C.2.1 ((v.2.2.2.2.2.2.2.2.1, v.2.2.2.2.2.2.2.2.2.1, ()), (v.2.2.2.2.2.2.1, v.2.2.2.2.2.2.2.1, ()), ())) fun r1 => (Dt.ite r1 (Dt.ret (v.1, v.2.1, v.2.2.1, v.2.2.2.1, v.2.2.2.2.1, true, v.2.2.2.2.2.2.1, v.2.2.2.2.2.2.2.1, v.2.2.2.2.2.2.2.2.1, v.2.2.2.2.2.2.2.2.2.1, v.2.2.2.2.2.2.2.2.2.2)) (Dt.ite ((v.2.2.2.2.2.2.1 == v.2.2.2.2.2.2.2.2.1) && ((v.2.2.2.2.2.2.2.1 == v.2.2.2.2.2.2.2.2.2.1) && true)) (Dt.ret (v.1, v.2.1, v.2.2.1, v.2.2.2.1, v.2.2.2.2.1, (decide ((List.length v.1 : Int) > (1:Int))), v.2.2.2.2.2.2.1, v.2.2.2.2.2.2.2.1, v.2.2.2.2.2.2.2.2.1, v.2.2.2.2.2.2.2.2.2.1, v.2.2.2.2.2.2.2.2.2.2)) (Dt.ret (v.1, v.2.1, v.2.2.1, v.2.2.2.1, v.2.2.2.2.1, false, v.2.2.2.2.2.2.1, v.2.2.2.2.2.2.2.1, v.2.2.2.2.2.2.2.2.1, v.2.2.2.2.2.2.2.2.2.1, v.2.2.2.2.2.2.2.2.2.2)))))
theorem race_Check_g8 (C : race_Check_C) (v : race_Check_Y6) : treg tysT (orc (race_Check_tab C)) 82 (regO (bodyOf f34) 8) false [(0, (.val Riiiii)), (3, .any), (4, .any), (13, (.val Riiiii)), (14, .any), (15, .any), (56, .any)] (race_Check_S6 v) some = (race_Check_r8 C v).eval fun y => some (race_Check_S8 y) := by kernel_rfl
def race_Check_r9 (C : race_Check_C) (v : race_Check_Y8) : Dt race_Check_Y2 := (Dt.ret (8:Int))
theorem race_Check_g9 (C : race_Check_C) (v : race_Check_Y8) : treg tysT (orc (race_Check_tab C)) 82 (regO (bodyOf f34) 9) false [(2, .any)] (race_Check_S8 v) some = (race_Check_r9 C v).eval fun y => some (race_Check_S2 y) := by kernel_rfl
abbrev race_Check_Y10 : Type := List Diiiii × List Diiiii × Int × Int × Bool
def race_Check_S10 (v : race_Check_Y10) : St := ⟨[(0, .fz Riiiii v.1), (13, .fz Riiiii v.2.1), (14, .int .i64 v.2.2.1), (15, .int .i64 v.2.2.2.1), (80, .bool v.2.2.2.2)], []⟩
def race_Check_r10 (C : race_Check_C) (v : race_Check_Y8) : Dt race_Check_Y10 := (Dt.ite (decide (v.2.1 > (0:Int))) (Dt.ite (inB (IntKind.wrap .i64 (v.2.1 - (1:Int))) (List.length v.1)) (Dt.ite (!(((elt ziiiii v.1 ((IntKind.wrap .i64 (v.2.1 - (1:Int)))).toNat).2.2.1 == v.2.2.2.2.2.2.1) && (((elt ziiiii v.1 ((IntKind.wrap .i64 (v.2.1 - (1:Int)))).toNat).2.2.2.1 == v.2.2.2.2.2.2.2.1) && true))) (Dt.ret (v.1, v.2.2.1, v.2.2.2.1, v.2.2.2.2.1, true)) (Dt.ite (inB (IntKind.wrap .i64 (v.2.1 - (1:Int))) (List.length v.1)) (Dt.ret (v.1, v.2.2.1, v.2.2.2.1, v.2.2.2.2.1, ((elt ziiiii v.1 ((IntKind.wrap .i64 (v.2.1 - (1:Int)))).toNat).2.2.2.2.1 == v.2.2.2.2.2.2.2.2.2.2))) Dt.fail)) Dt.fail) (Dt.ret (v.1, v.2.2.1, v.2.2.2.1, v.2.2.2.2.1, false)))
theorem race_Check_g10 (C : race_Check_C) (v : race_Check_Y8) : treg tysT (orc (race_Check_tab C)) 82 (regO (bodyOf f34) 10) true [(0, (.val Riiiii)), (13, (.val Riiiii)), (14, .any), (15, .any), (80, .any)] (race_Check_S8 v) some = (race_Check_r10 C v).eval fun y => some (race_Check_S10 y) := by kernel_rfl
def race_Check_r11 (C : race_Check_C) (v : race_Check_Y10) : Dt race_Check_Y2 := (Dt.ret (8:Int))
theorem race_Check_g11 (C : race_Check_C) (v : race_Check_Y10) : treg tysT (orc (race_Check_tab C)) 82 (regO (bodyOf f34) 11) false [(2, .any)] (race_Check_S10 v) some = (race_Check_r11 C v).eval fun y => some (race_Check_S2 y) := by kernel_rfl
def race_Check_r12 (C : race_Check_C) (v : race_Check_Y10) : Dt race_Check_Y3 := (Dt.ret (v.1, v.2.1, v.2.2.1, (IntKind.wrap .i64 (v.2.2.2.1 + (1:Int)))))
theorem race_Check_g12 (C : race_Check_C) (v : race_Check_Y10) : treg tysT (orc (race_Check_tab C)) 82 (regO (bodyOf f34) 12) false [(0, (.val Riiiii)), (13, (.val Riiiii)), (14, .any), (15, .any)] (race_Check_S10 v) some = (race_Check_r12 C v).eval fun y => some (race_Check_S3 y) := by kernel_rfl
def race_Check_r13 (C : race_Check_C) (v : race_Check_Y4) : Dt race_Check_Y2 := (Dt.ret (0:Int))
theorem race_Check_g13 (C : race_Check_C) (v : race_Check_Y4) : treg tysT (orc (race_Check_tab C)) 82 (regO (bodyOf f34) 13) false [(2, .any)] (race_Check_S4 v) some = (race_Check_r13 C v).eval fun y => some (race_Check_S2 y) := by kernel_rfl
def race_Check_L1 (d : Nat) (self1 : (List Diiiii × List Diiiii × Int × Int) → Option race_Check_R) (x1 : List Diiiii × List Diiiii × Int × Int) : Option race_Check_R :=
  (race_Check_r4 (race_Check_K d) x1).eval fun y4 =>
  bif y4.2.2.2.2 then ((race_Check_r5 (race_Check_K d) y4).eval fun y5 =>
  (race_Check_r6 (race_Check_K d) y5).eval fun y6 =>
  bif y6.2.2.2.2.2.1 then ((race_Check_r7 (race_Check_K d) y6).eval fun y7 =>
  some y7) else ((race_Check_r8 (race_Check_K d) y6).eval fun y8 =>
  bif y8.2.2.2.2.2.1 then ((race_Check_r9 (race_Check_K d) y8).eval fun y9 =>
  some y9) else ((race_Check_r10 (race_Check_K d) y8).eval fun y10 =>
  bif y10.2.2.2.2 then ((race_Check_r11 (race_Check_K d) y10).eval fun y11 =>
  some y11) else ((race_Check_r12 (race_Check_K d) y10).eval fun y12 =>
  self1 y12)))) else ((race_Check_r13 (race_Check_K d) y4).eval fun y13 =>
  some y13)
def F_race_Check (d : Nat) (x : race_Check_X) : Option race_Check_R :=
  (race_Check_r0 (race_Check_K d) x.1.1).eval fun y0 =>
  (race_Check_r1 (race_Check_K d) y0).eval fun y1 =>
  bif y1.2 then ((race_Check_r2 (race_Check_K d) y1).eval fun y2 =>
  some y2) else ((race_Check_r3 (race_Check_K d) y1).eval fun y3 =>
  iter (race_Check_L1 d ) d y3)
theorem race_Check_cok (d : Nat) : COK prog (race_Check_sp (F_race_Check d)) := by
  have hm : prog.follows .mixedOrders = true := mixed
  have hT := tys
  have hC0 : OrcOK prog (orc (race_Check_tab (race_Check_K d))) := orc_ok (by
    intro S hS
    simp only [race_Check_tab, List.mem_cons, List.not_mem_nil, or_false] at hS
    rcases hS with rfl | rfl
    · exact ratio_Check_cok d
    · exact race_less_cok d)
  have hC : OrcOK prog (orc (race_Check_tab (race_Check_K d))) := hC0
  refine cok_of (c := bodyOf f34) (fn := f34) hT (by kernel_rfl) (by kernel_rfl) (by decide) fun x r h w0 φ0 Q hend => ?_
  replace h : F_race_Check d x = some r := h
  unfold F_race_Check at h
  show Run prog w0 φ0 82 (bodyOf f34) ⟨[(0, .fz Riiiii x.1.1)], []⟩ Q
  refine run_seq ?_
  refine run_reg hm hT hC (race_Check_g0 (race_Check_K d) x.1.1) h ?_
  intro y0 h
  refine cn_then ?_
  refine run_seq ?_
  refine run_seq ?_
  refine run_reg hm hT hC (race_Check_g1 (race_Check_K d) y0) h ?_
  intro y1 h
  refine cn_then ?_
  refine run_cond (v := y1.2) (by kernel_rfl) h ?_ ?_
  ·
    intro h
    refine run_seq ?_
    refine run_reg hm hT hC (race_Check_g2 (race_Check_K d) y1) h ?_
    intro y2 h
    refine cn_then ?_
    refine run_ret ?_
    refine cn_then_ret ?_
    cases h
    exact (hend _ (by kernel_rfl)).2
  ·
    intro h
    refine run_skip ?_
    refine cn_then ?_
    refine run_seq ?_
    refine run_seq ?_
    refine run_reg hm hT hC (race_Check_g3 (race_Check_K d) y1) h ?_
    intro y3 h
    refine cn_then ?_
    refine run_block ?_
    refine run_loop (G := iter (race_Check_L1 d )) (S := (fun x1 => ⟨[(0, .fz Riiiii x1.1), (13, .fz Riiiii x1.2.1), (14, .int .i64 x1.2.2.1), (15, .int .i64 x1.2.2.2)], []⟩ : List Diiiii × List Diiiii × Int × Int → St)) (fun _ => rfl) ?_ d _ h
    intro n1 x1 h K1 hn1
    replace h : race_Check_L1 d  (iter (race_Check_L1 d ) n1) x1 = some r := h
    generalize iter (race_Check_L1 d ) n1 = self1 at h hn1
    unfold race_Check_L1 at h
    refine run_seq ?_
    refine run_reg hm hT hC (race_Check_g4 (race_Check_K d) x1) h ?_
    intro y4 h
    refine cn_then ?_
    refine run_seq ?_
    refine run_cond (v := y4.2.2.2.2) (by kernel_rfl) h ?_ ?_
    ·
      intro h
      refine run_skip ?_
      refine cn_then ?_
      refine run_seq ?_
      refine run_block ?_
      refine run_seq ?_
      refine run_reg hm hT hC (race_Check_g5 (race_Check_K d) y4) h ?_
      intro y5 h
      refine cn_then ?_
      refine run_seq ?_
      refine run_seq ?_
      refine run_reg hm hT hC (race_Check_g6 (race_Check_K d) y5) h ?_
      intro y6 h
      refine cn_then ?_
      refine run_cond (v := y6.2.2.2.2.2.1) (by kernel_rfl) h ?_ ?_
      ·
        intro h
        refine run_seq ?_
        refine run_reg hm hT hC (race_Check_g7 (race_Check_K d) y6) h ?_
        intro y7 h
        refine cn_then ?_
        refine run_ret ?_
        refine cn_then_ret ?_
        refine cn_blk_ret ?_
        refine cn_then_ret ?_
        refine cn_then_ret ?_
        refine cn_blk_ret ?_
        refine cn_then_ret ?_
        cases h
        exact (hend _ (by kernel_rfl)).2
      ·
        intro h
        refine run_skip ?_
        refine cn_then ?_
        refine run_seq ?_
        refine run_seq ?_
        refine run_reg hm hT hC (race_Check_g8 (race_Check_K d) y6) h ?_
        intro y8 h
        refine cn_then ?_
        refine run_cond (v := y8.2.2.2.2.2.1) (by kernel_rfl) h ?_ ?_
        ·
          intro h
          refine run_seq ?_
          refine run_reg hm hT hC (race_Check_g9 (race_Check_K d) y8) h ?_
          intro y9 h
          refine cn_then ?_
          refine run_ret ?_
          refine cn_then_ret ?_
          refine cn_blk_ret ?_
          refine cn_then_ret ?_
          refine cn_then_ret ?_
          refine cn_blk_ret ?_
          refine cn_then_ret ?_
          cases h
          exact (hend _ (by kernel_rfl)).2
        ·
          intro h
          refine run_skip ?_
          refine cn_then ?_
          refine run_seq ?_
          refine run_reg hm hT hC (race_Check_g10 (race_Check_K d) y8) h ?_
          intro y10 h
          refine cn_then ?_
          refine run_cond (v := y10.2.2.2.2) (by kernel_rfl) h ?_ ?_
          ·
            intro h
            refine run_seq ?_
            refine run_reg hm hT hC (race_Check_g11 (race_Check_K d) y10) h ?_
            intro y11 h
            refine cn_then ?_
            refine run_ret ?_
            refine cn_blk_ret ?_
            refine cn_then_ret ?_
            refine cn_then_ret ?_
            refine cn_blk_ret ?_
            refine cn_then_ret ?_
            cases h
            exact (hend _ (by kernel_rfl)).2
          ·
            intro h
            refine run_skip ?_
            refine cn_blk ?_
            refine cn_then ?_
            refine run_reg hm hT hC (race_Check_g12 (race_Check_K d) y10) h ?_
            intro y12 h
            exact hn1 _ h
    ·
      intro h
      refine run_exit ?_
      refine cn_then_exit ?_
      refine cn_then_exit ?_
      refine cn_blk_eq ?_
      refine cn_then ?_
      refine run_seq ?_
      refine run_reg hm hT hC (race_Check_g13 (race_Check_K d) y4) h ?_
      intro y13 h
      refine cn_then ?_
      refine run_ret ?_
      cases h
      exact (hend _ (by kernel_rfl)).2
end Go.Proofs.Ytdpnndpbbdhnmaa

namespace Go.Proofs.Ytdpnndpbbdhnmaa
open Go Go.Tx Go.Proofs.Try
set_option maxRecDepth 100000
set_option maxHeartbeats 0
abbrev ref01_Sign_ps : List Pk := [.row Rbuu true]
abbrev ref01_Sign_X : Type := Dbuu × Unit
abbrev ref01_Sign_R : Type := Int
def ref01_Sign_enc (r : ref01_Sign_R) : LV × List Ob := (.int .i64 r, [])
def ref01_Sign_sp (F : ref01_Sign_X → Option ref01_Sign_R) : Go.Tx.Spec := ⟨54, ref01_Sign_ps, ref01_Sign_R, F, ref01_Sign_enc⟩
abbrev ref01_Sign_C : Type := Unit
def ref01_Sign_K (_d : Nat) : ref01_Sign_C := ()
def ref01_Sign_tab (C : ref01_Sign_C) : List Go.Tx.Spec := []
abbrev ref01_Sign_Y0i : Type := Bool × Int × Int
def ref01_Sign_S0i (v : ref01_Sign_Y0i) : St := ⟨[(0, .agg [.bool v.1, .int .u64 v.2.1, .int .u64 v.2.2])], []⟩
abbrev ref01_Sign_Y0 : Type := Bool × Int × Int
def ref01_Sign_S0 (v : ref01_Sign_Y0) : St := ⟨[(1, .ptr 0 0)], [.cells [.bool v.1, .int .u64 v.2.1, .int .u64 v.2.2]]⟩
def ref01_Sign_r0 (C : ref01_Sign_C) (v : ref01_Sign_Y0i) : Dt ref01_Sign_Y0 := (Dt.ret (v.1, v.2.1, v.2.2))
theorem ref01_Sign_g0 (C : ref01_Sign_C) (v : ref01_Sign_Y0i) : treg tysT (orc (ref01_Sign_tab C)) 13 (regO (bodyOf f54) 0) false [(1, .any)] (ref01_Sign_S0i v) some = (ref01_Sign_r0 C v).eval fun y => some (ref01_Sign_S0 y) := by kernel_rfl
abbrev ref01_Sign_Y1 : Type := Bool × Bool × Int × Int
def ref01_Sign_S1 (v : ref01_Sign_Y1) : St := ⟨[(1, .ptr 0 0), (10, .bool v.1)], [.cells [.bool v.2.1, .int .u64 v.2.2.1, .int .u64 v.2.2.2]]⟩
def ref01_Sign_r1 (C : ref01_Sign_C) (v : ref01_Sign_Y0) : Dt ref01_Sign_Y1 := (Dt.ite (v.2.1 == (0:Int)) (Dt.ret ((v.2.2 == (0:Int)), v.1, v.2.1, v.2.2)) (Dt.ret (false, v.1, v.2.1, v.2.2)))
theorem ref01_Sign_g1 (C : ref01_Sign_C) (v : ref01_Sign_Y0) : treg tysT (orc (ref01_Sign_tab C)) 13 (regO (bodyOf f54) 1) false [(1, .any), (10, .any)] (ref01_Sign_S0 v) some = (ref01_Sign_r1 C v).eval fun y => some (ref01_Sign_S1 y) := by kernel_rfl
abbrev ref01_Sign_Y2 : Type := Int
def ref01_Sign_S2 (v : ref01_Sign_Y2) : St := ⟨[(2, .int .i64 v)], []⟩
def ref01_Sign_r2 (C : ref01_Sign_C) (v : ref01_Sign_Y1) : Dt ref01_Sign_Y2 := (Dt.ret (0:Int))
theorem ref01_Sign_g2 (C : ref01_Sign_C) (v : ref01_Sign_Y1) : treg tysT (orc (ref01_Sign_tab C)) 13 (regO (bodyOf f54) 2) false [(2, .any)] (ref01_Sign_S1 v) some = (ref01_Sign_r2 C v).eval fun y => some (ref01_Sign_S2 y) := by kernel_rfl
abbrev ref01_Sign_Y3 : Type := Bool
def ref01_Sign_S3 (v : ref01_Sign_Y3) : St := ⟨[(12, .bool v)], []⟩
def ref01_Sign_r3 (C : ref01_Sign_C) (v : ref01_Sign_Y1) : Dt ref01_Sign_Y3 := (Dt.ret v.2.1)
theorem ref01_Sign_g3 (C : ref01_Sign_C) (v : ref01_Sign_Y1) : treg tysT (orc (ref01_Sign_tab C)) 13 (regO (bodyOf f54) 3) false [(12, .any)] (ref01_Sign_S1 v) some = (ref01_Sign_r3 C v).eval fun y => some (ref01_Sign_S3 y) := by kernel_rfl
def ref01_Sign_r4 (C : ref01_Sign_C) (v : ref01_Sign_Y3) : Dt ref01_Sign_Y2 := (Dt.ret (-1:Int))
theorem ref01_Sign_g4 (C : ref01_Sign_C) (v : ref01_Sign_Y3) : treg tysT (orc (ref01_Sign_tab C)) 13 (regO (bodyOf f54) 4) false [(2, .any)] (ref01_Sign_S3 v) some = (ref01_Sign_r4 C v).eval fun y => some (ref01_Sign_S2 y) := by kernel_rfl
def ref01_Sign_r5 (C : ref01_Sign_C) (v : ref01_Sign_Y3) : Dt ref01_Sign_Y2 := (Dt.ret (1:Int))
theorem ref01_Sign_g5 (C : ref01_Sign_C) (v : ref01_Sign_Y3) : treg tysT (orc (ref01_Sign_tab C)) 13 (regO (bodyOf f54) 5) false [(2, .any)] (ref01_Sign_S3 v) some = (ref01_Sign_r5 C v).eval fun y => some (ref01_Sign_S2 y) := by kernel_rfl
def F_ref01_Sign (d : Nat) (x : ref01_Sign_X) : Option ref01_Sign_R :=
  (ref01_Sign_r0 (ref01_Sign_K d) (x.1.1, x.1.2.1, x.1.2.2.1)).eval fun y0 =>
  (ref01_Sign_r1 (ref01_Sign_K d) y0).eval fun y1 =>
  bif y1.1 then ((ref01_Sign_r2 (ref01_Sign_K d) y1).eval fun y2 =>
  some y2) else ((ref01_Sign_r3 (ref01_Sign_K d) y1).eval fun y3 =>
  bif y3 then ((ref01_Sign_r4 (ref01_Sign_K d) y3).eval fun y4 =>
  some y4) else ((ref01_Sign_r5 (ref01_Sign_K d) y3).eval fun y5 =>
  some y5))
theorem ref01_Sign_cok (d : Nat) : COK prog (ref01_Sign_sp (F_ref01_Sign d)) := by
  have hm : prog.follows .mixedOrders = true := mixed
  have hT := tys
  have hC0 : OrcOK prog (orc (ref01_Sign_tab (ref01_Sign_K d))) := orc_ok (by
    intro S hS
    simp only [ref01_Sign_tab, List.mem_cons, List.not_mem_nil, or_false] at hS
    all_goals first | cases hS | exact hS.elim)
  have hC : OrcOK prog (orc (ref01_Sign_tab (ref01_Sign_K d))) := hC0
  refine cok_of (c := bodyOf f54) (fn := f54) hT (by kernel_rfl) (by kernel_rfl) (by decide) fun x r h w0 φ0 Q hend => ?_
  replace h : F_ref01_Sign d x = some r := h
  unfold F_ref01_Sign at h
  show Run prog w0 φ0 13 (bodyOf f54) ⟨[(0, .agg [.bool x.1.1, .int .u64 x.1.2.1, .int .u64 x.1.2.2.1])], []⟩ Q
  refine run_seq ?_
  refine run_reg hm hT hC (ref01_Sign_g0 (ref01_Sign_K d) (x.1.1, x.1.2.1, x.1.2.2.1)) h ?_
  intro y0 h
  refine cn_then ?_
  refine run_seq ?_
  refine run_seq ?_
  refine run_reg hm hT hC (ref01_Sign_g1 (ref01_Sign_K d) y0) h ?_
  intro y1 h
  refine cn_then ?_
  refine run_cond (v := y1.1) (by kernel_rfl) h ?_ ?_
  ·
    intro h
    refine run_seq ?_
    refine run_reg hm hT hC (ref01_Sign_g2 (ref01_Sign_K d) y1) h ?_
    intro y2 h
    refine cn_then ?_
    refine run_ret ?_
    refine cn_then_ret ?_
    cases h
    exact (hend _ (by kernel_rfl)).2
  ·
    intro h
    refine run_skip ?_
    refine cn_then ?_
    refine run_seq ?_
    refine run_seq ?_
    refine run_reg hm hT hC (ref01_Sign_g3 (ref01_Sign_K d) y1) h ?_
    intro y3 h
    refine cn_then ?_
    refine run_cond (v := y3) (by kernel_rfl) h ?_ ?_
    ·
      intro h
      refine run_seq ?_
      refine run_reg hm hT hC (ref01_Sign_g4 (ref01_Sign_K d) y3) h ?_
      intro y4 h
      refine cn_then ?_
      refine run_ret ?_
      refine cn_then_ret ?_
      cases h
      exact (hend _ (by kernel_rfl)).2
    ·
      intro h
      refine run_skip ?_
      refine cn_then ?_
      refine run_seq ?_
      refine run_reg hm hT hC (ref01_Sign_g5 (ref01_Sign_K d) y3) h ?_
      intro y5 h
      refine cn_then ?_
      refine run_ret ?_
      cases h
      exact (hend _ (by kernel_rfl)).2
abbrev ref01_less_ps : List Pk := [.row Rbuu true, .row Rbuu true]
abbrev ref01_less_X : Type := Dbuu × Dbuu × Unit
abbrev ref01_less_R : Type := Int
def ref01_less_enc (r : ref01_less_R) : LV × List Ob := (.int .i64 r, [])
def ref01_less_sp (F : ref01_less_X → Option ref01_less_R) : Go.Tx.Spec := ⟨55, ref01_less_ps, ref01_less_R, F, ref01_less_enc⟩
abbrev ref01_less_C : Type := Unit
def ref01_less_K (_d : Nat) : ref01_less_C := ()
def ref01_less_tab (C : ref01_less_C) : List Go.Tx.Spec := []
abbrev ref01_less_Y0i : Type := Bool × Int × Int × Bool × Int × Int
def ref01_less_S0i (v : ref01_less_Y0i) : St := ⟨[(0, .agg [.bool v.1, .int .u64 v.2.1, .int .u64 v.2.2.1]), (1, .agg [.bool v.2.2.2.1, .int .u64 v.2.2.2.2.1, .int .u64 v.2.2.2.2.2])], []⟩
abbrev ref01_less_Y0 : Type := Bool × Int × Int × Bool × Int × Int
def ref01_less_S0 (v : ref01_less_Y0) : St := ⟨[(2, .ptr 0 0), (3, .ptr 1 0)], [.cells [.bool v.1, .int .u64 v.2.1, .int .u64 v.2.2.1], .cells [.bool v.2.2.2.1, .int .u64 v.2.2.2.2.1, .int .u64 v.2.2.2.2.2]]⟩
def ref01_less_r0 (C : ref01_less_C) (v : ref01_less_Y0i) : Dt ref01_less_Y0 := (Dt.ret (v.1, v.2.1, v.2.2.1, v.2.2.2.1, v.2.2.2.2.1, v.2.2.2.2.2))
theorem ref01_less_g0 (C : ref01_less_C) (v : ref01_less_Y0i) : treg tysT (orc (ref01_less_tab C)) 25 (regO (bodyOf f55) 0) false [(2, .any), (3, .any)] (ref01_less_S0i v) some = (ref01_less_r0 C v).eval fun y => some (ref01_less_S0 y) := by kernel_rfl
abbrev ref01_less_Y1 : Type := Bool × Bool × Int × Int × Bool × Int × Int
def ref01_less_S1 (v : ref01_less_Y1) : St := ⟨[(2, .ptr 0 0), (3, .ptr 1 0), (9, .bool v.1)], [.cells [.bool v.2.1, .int .u64 v.2.2.1, .int .u64 v.2.2.2.1], .cells [.bool v.2.2.2.2.1, .int .u64 v.2.2.2.2.2.1, .int .u64 v.2.2.2.2.2.2]]⟩
def ref01_less_r1 (C : ref01_less_C) (v : ref01_less_Y0) : Dt ref01_less_Y1 := (Dt.ret ((v.2.1 != v.2.2.2.2.1), v.1, v.2.1, v.2.2.1, v.2.2.2.1, v.2.2.2.2.1, v.2.2.2.2.2))
theorem ref01_less_g1 (C : ref01_less_C) (v : ref01_less_Y0) : treg tysT (orc (ref01_less_tab C)) 25 (regO (bodyOf f55) 1) false [(2, .any), (3, .any), (9, .any)] (ref01_less_S0 v) some = (ref01_less_r1 C v).eval fun y => some (ref01_less_S1 y) := by kernel_rfl
abbrev ref01_less_Y2 : Type := Bool
def ref01_less_S2 (v : ref01_less_Y2) : St := ⟨[(14, .bool v)], []⟩
def ref01_less_r2 (C : ref01_less_C) (v : ref01_less_Y1) : Dt ref01_less_Y2 := (Dt.ret (decide (v.2.2.1 < v.2.2.2.2.2.1)))
theorem ref01_less_g2 (C : ref01_less_C) (v : ref01_less_Y1) : treg tysT (orc (ref01_less_tab C)) 25 (regO (bodyOf f55) 2) false [(14, .any)] (ref01_less_S1 v) some = (ref01_less_r2 C v).eval fun y => some (ref01_less_S2 y) := by kernel_rfl
abbrev ref01_less_Y3 : Type := Int
def ref01_less_S3 (v : ref01_less_Y3) : St := ⟨[(4, .int .i64 v)], []⟩
def ref01_less_r3 (C : ref01_less_C) (v : ref01_less_Y2) : Dt ref01_less_Y3 := (Dt.ret (-1:Int))
theorem ref01_less_g3 (C : ref01_less_C) (v : ref01_less_Y2) : treg tysT (orc (ref01_less_tab C)) 25 (regO (bodyOf f55) 3) false [(4, .any)] (ref01_less_S2 v) some = (ref01_less_r3 C v).eval fun y => some (ref01_less_S3 y) := by kernel_rfl
def ref01_less_r4 (C : ref01_less_C) (v : ref01_less_Y2) : Dt ref01_less_Y3 := (Dt.ret (1:Int))
theorem ref01_less_g4 (C : ref01_less_C) (v : ref01_less_Y2) : treg tysT (orc (ref01_less_tab C)) 25 (regO (bodyOf f55) 4) false [(4, .any)] (ref01_less_S2 v) some = (ref01_less_r4 C v).eval fun y => some (ref01_less_S3 y) := by kernel_rfl
abbrev ref01_less_Y5 : Type := Bool × Bool × Int × Int × Bool × Int × Int
def ref01_less_S5 (v : ref01_less_Y5) : St := ⟨[(2, .ptr 0 0), (3, .ptr 1 0), (19, .bool v.1)], [.cells [.bool v.2.1, .int .u64 v.2.2.1, .int .u64 v.2.2.2.1], .cells [.bool v.2.2.2.2.1, .int .u64 v.2.2.2.2.2.1, .int .u64 v.2.2.2.2.2.2]]⟩
def ref01_less_r5 (C : ref01_less_C) (v : ref01_less_Y1) : Dt ref01_less_Y5 := (Dt.ret ((v.2.2.2.1 != v.2.2.2.2.2.2), v.2.1, v.2.2.1, v.2.2.2.1, v.2.2.2.2.1, v.2.2.2.2.2.1, v.2.2.2.2.2.2))
theorem ref01_less_g5 (C : ref01_less_C) (v : ref01_less_Y1) : treg tysT (orc (ref01_less_tab C)) 25 (regO (bodyOf f55) 5) false [(2, .any), (3, .any), (19, .any)] (ref01_less_S1 v) some = (ref01_less_r5 C v).eval fun y => some (ref01_less_S5 y) := by kernel_rfl
abbrev ref01_less_Y6 : Type := Bool
def ref01_less_S6 (v : ref01_less_Y6) : St := ⟨[(24, .bool v)], []⟩
def ref01_less_r6 (C : ref01_less_C) (v : ref01_less_Y5) : Dt ref01_less_Y6 := (Dt.ret (decide (v.2.2.2.1 < v.2.2.2.2.2.2)))
theorem ref01_less_g6 (C : ref01_less_C) (v : ref01_less_Y5) : treg tysT (orc (ref01_less_tab C)) 25 (regO (bodyOf f55) 6) false [(24, .any)] (ref01_less_S5 v) some = (ref01_less_r6 C v).eval fun y => some (ref01_less_S6 y) := by kernel_rfl
def ref01_less_r7 (C : ref01_less_C) (v : ref01_less_Y6) : Dt ref01_less_Y3 := (Dt.ret (-1:Int))
theorem ref01_less_g7 (C : ref01_less_C) (v : ref01_less_Y6) : treg tysT (orc (ref01_less_tab C)) 25 (regO (bodyOf f55) 7) false [(4, .any)] (ref01_less_S6 v) some = (ref01_less_r7 C v).eval fun y => some (ref01_less_S3 y) := by kernel_rfl
def ref01_less_r8 (C : ref01_less_C) (v : ref01_less_Y6) : Dt ref01_less_Y3 := (Dt.ret (1:Int))
theorem ref01_less_g8 (C : ref01_less_C) (v : ref01_less_Y6) : treg tysT (orc (ref01_less_tab C)) 25 (regO (bodyOf f55) 8) false [(4, .any)] (ref01_less_S6 v) some = (ref01_less_r8 C v).eval fun y => some (ref01_less_S3 y) := by kernel_rfl
def ref01_less_r9 (C : ref01_less_C) (v : ref01_less_Y5) : Dt ref01_less_Y3 := (Dt.ret (0:Int))
theorem ref01_less_g9 (C : ref01_less_C) (v : ref01_less_Y5) : treg tysT (orc (ref01_less_tab C)) 25 (regO (bodyOf f55) 9) false [(4, .any)] (ref01_less_S5 v) some = (ref01_less_r9 C v).eval fun y => some (ref01_less_S3 y) := by kernel_rfl
def F_ref01_less (d : Nat) (x : ref01_less_X) : Option ref01_less_R :=
  (ref01_less_r0 (ref01_less_K d) (x.1.1, x.1.2.1, x.1.2.2.1, x.2.1.1, x.2.1.2.1, x.2.1.2.2.1)).eval fun y0 =>
  (ref01_less_r1 (ref01_less_K d) y0).eval fun y1 =>
  bif y1.1 then ((ref01_less_r2 (ref01_less_K d) y1).eval fun y2 =>
  bif y2 then ((ref01_less_r3 (ref01_less_K d) y2).eval fun y3 =>
  some y3) else ((ref01_less_r4 (ref01_less_K d) y2).eval fun y4 =>
  some y4)) else ((ref01_less_r5 (ref01_less_K d) y1).eval fun y5 =>
  bif y5.1 then ((ref01_less_r6 (ref01_less_K d) y5).eval fun y6 =>
  bif y6 then ((ref01_less_r7 (ref01_less_K d) y6).eval fun y7 =>
  some y7) else ((ref01_less_r8 (ref01_less_K d) y6).eval fun y8 =>
  some y8)) else ((ref01_less_r9 (ref01_less_K d) y5).eval fun y9 =>
  some y9))
theorem ref01_less_cok (d : Nat) : COK prog (ref01_less_sp (F_ref01_less d)) := by
  have hm : prog.follows .mixedOrders = true := mixed
  have hT := tys
  have hC0 : OrcOK prog (orc (ref01_less_tab (ref01_less_K d))) := orc_ok (by
    intro S hS
    simp only [ref01_less_tab, List.mem_cons, List.not_mem_nil, or_false] at hS
    all_goals first | cases hS | exact hS.elim)
  have hC : OrcOK prog (orc (ref01_less_tab (ref01_less_K d))) := hC0
  refine cok_of (c := bodyOf f55) (fn := f55) hT (by kernel_rfl) (by kernel_rfl) (by decide) fun x r h w0 φ0 Q hend => ?_
  replace h : F_ref01_less d x = some r := h
  unfold F_ref01_less at h
  show Run prog w0 φ0 25 (bodyOf f55) ⟨[(0, .agg [.bool x.1.1, .int .u64 x.1.2.1, .int .u64 x.1.2.2.1]), (1, .agg [.bool x.2.1.1, .int .u64 x.2.1.2.1, .int .u64 x.2.1.2.2.1])], []⟩ Q
  refine run_seq ?_
  refine run_reg hm hT hC (ref01_less_g0 (ref01_less_K d) (x.1.1, x.1.2.1, x.1.2.2.1, x.2.1.1, x.2.1.2.1, x.2.1.2.2.1)) h ?_
  intro y0 h
  refine cn_then ?_
  refine run_seq ?_
  refine run_seq ?_
  refine run_reg hm hT hC (ref01_less_g1 (ref01_less_K d) y0) h ?_
  intro y1 h
  refine cn_then ?_
  refine run_cond (v := y1.1) (by kernel_rfl) h ?_ ?_
  ·
    intro h
    refine run_seq ?_
    refine run_seq ?_
    refine run_reg hm hT hC (ref01_less_g2 (ref01_less_K d) y1) h ?_
    intro y2 h
    refine cn_then ?_
    refine run_cond (v := y2) (by kernel_rfl) h ?_ ?_
    ·
      intro h
      refine run_seq ?_
      refine run_reg hm hT hC (ref01_less_g3 (ref01_less_K d) y2) h ?_
      intro y3 h
      refine cn_then ?_
      refine run_ret ?_
      refine cn_then_ret ?_
      refine cn_then_ret ?_
      cases h
      exact (hend _ (by kernel_rfl)).2
    ·
      intro h
      refine run_skip ?_
      refine cn_then ?_
      refine run_seq ?_
      refine run_reg hm hT hC (ref01_less_g4 (ref01_less_K d) y2) h ?_
      intro y4 h
      refine cn_then ?_
      refine run_ret ?_
      refine cn_then_ret ?_
      cases h
      exact (hend _ (by kernel_rfl)).2
  ·
    intro h
    refine run_skip ?_
    refine cn_then ?_
    refine run_seq ?_
    refine run_seq ?_
    refine run_reg hm hT hC (ref01_less_g5 (ref01_less_K d) y1) h ?_
    intro y5 h
    refine cn_then ?_
    refine run_cond (v := y5.1) (by kernel_rfl) h ?_ ?_
    ·
      intro h
      refine run_seq ?_
      refine run_seq ?_
      refine run_reg hm hT hC (ref01_less_g6 (ref01_less_K d) y5) h ?_
      intro y6 h
      refine cn_then ?_
      refine run_cond (v := y6) (by kernel_rfl) h ?_ ?_
      ·
        intro h
        refine run_seq ?_
        refine run_reg hm hT hC (ref01_less_g7 (ref01_less_K d) y6) h ?_
        intro y7 h
        refine cn_then ?_
        refine run_ret ?_
        refine cn_then_ret ?_
        refine cn_then_ret ?_
        cases h
        exact (hend _ (by kernel_rfl)).2
      ·
        intro h
        refine run_skip ?_
        refine cn_then ?_
        refine run_seq ?_
        refine run_reg hm hT hC (ref01_less_g8 (ref01_less_K d) y6) h ?_
        intro y8 h
        refine cn_then ?_
        refine run_ret ?_
        refine cn_then_ret ?_
        cases h
        exact (hend _ (by kernel_rfl)).2
    ·
      intro h
      refine run_skip ?_
      refine cn_then ?_
      refine run_seq ?_
      refine run_reg hm hT hC (ref01_less_g9 (ref01_less_K d) y5) h ?_
      intro y9 h
      refine cn_then ?_
      refine run_ret ?_
      cases h
      exact (hend _ (by kernel_rfl)).2
abbrev ref01_Compare_ps : List Pk := [.row Rii true, .row Rii true]
abbrev ref01_Compare_X : Type := Dii × Dii × Unit
abbrev ref01_Compare_R : Type := Int
def ref01_Compare_enc (r : ref01_Compare_R) : LV × List Ob := (.int .i64 r, [])
def ref01_Compare_sp (F : ref01_Compare_X → Option ref01_Compare_R) : Go.Tx.Spec := ⟨23, ref01_Compare_ps, ref01_Compare_R, F, ref01_Compare_enc⟩
abbrev ref01_Compare_C : Type := (ref01_Product_X → Option ref01_Product_R) × (ref01_Sign_X → Option ref01_Sign_R) × (ref01_less_X → Option ref01_less_R) × Unit
def ref01_Compare_K (d : Nat) : ref01_Compare_C := (F_ref01_Product d, F_ref01_Sign d, F_ref01_less d, ())
def ref01_Compare_tab (C : ref01_Compare_C) : List Go.Tx.Spec := [ref01_Product_sp C.1, ref01_Sign_sp C.2.1, ref01_less_sp C.2.2.1]
abbrev ref01_Compare_Y0i : Type := Int × Int × Int × Int
def ref01_Compare_S0i (v : ref01_Compare_Y0i) : St := ⟨[(0, .agg [.int .i64 v.1, .int .i64 v.2.1]), (1, .agg [.int .i64 v.2.2.1, .int .i64 v.2.2.2])], []⟩
abbrev ref01_Compare_Y0 : Type := Int × Int × Int × Int
def ref01_Compare_S0 (v : ref01_Compare_Y0) : St := ⟨[(2, .ptr 0 0), (3, .ptr 1 0)], [.cells [.int .i64 v.1, .int .i64 v.2.1], .cells [.int .i64 v.2.2.1, .int .i64 v.2.2.2]]⟩
def ref01_Compare_r0 (C : ref01_Compare_C) (v : ref01_Compare_Y0i) : Dt ref01_Compare_Y0 := (Dt.ret (v.1, v.2.1, v.2.2.1, v.2.2.2))
theorem ref01_Compare_g0 (C : ref01_Compare_C) (v : ref01_Compare_Y0i) : treg tysT (orc (ref01_Compare_tab C)) 36 (regO (bodyOf f23) 0) false [(2, .any), (3, .any)] (ref01_Compare_S0i v) some = (ref01_Compare_r0 C v).eval fun y => some (ref01_Compare_S0 y) := by kernel_rfl
abbrev ref01_Compare_Y1 : Type := Bool × Int × Int × Bool × Int × Int
def ref01_Compare_S1 (v : ref01_Compare_Y1) : St := ⟨[(5, .ptr 0 0), (6, .ptr 1 0)], [.cells [.bool v.1, .int .u64 v.2.1, .int .u64 v.2.2.1], .cells [.bool v.2.2.2.1, .int .u64 v.2.2.2.2.1, .int .u64 v.2.2.2.2.2]]⟩
def ref01_Compare_r1 (C : ref01_Compare_C) (v : ref01_Compare_Y0) : Dt ref01_Compare_Y1 := (Dt.bnd (C.1 ((v.1, ()), (v.2.2.2, ()), ())) fun r1 => (Dt.bnd (C.1 ((v.2.2.1, ()), (v.2.1, ()), ())) fun r2 => (Dt.ret (r1.1, r1.2.1, r1.2.2, r2.1, r2.2.1, r2.2.2))))
theorem ref01_Compare_g1 (C : ref01_Compare_C) (v : ref01_Compare_Y0) : treg tysT (orc (ref01_Compare_tab C)) 36 (regO (bodyOf f23) 1) true [(5, .any), (6, .any)] (ref01_Compare_S0 v) some = (ref01_Compare_r1 C v).eval fun y => some (ref01_Compare_S1 y) := by kernel_rfl
abbrev ref01_Compare_Y2 : Type := Bool × Bool × Int × Int × Bool × Int × Int
def ref01_Compare_S2 (v : ref01_Compare_Y2) : St := ⟨[(5, .ptr 0 0), (6, .ptr 1 0), (21, .bool v.1)], [.cells [.bool v.2.1, .int .u64 v.2.2.1, .int .u64 v.2.2.2.1], .cells [.bool v.2.2.2.2.1, .int .u64 v.2.2.2.2.2.1, .int .u64 v.2.2.2.2.2.2]]⟩
def ref01_Compare_r2 (C : ref01_Compare_C) (v : ref01_Compare_Y1) : Dt ref01_Compare_Y2 := (Dt.bnd (C.2.1 ((v.1, v.2.1, v.2.2.1, ()), ())) fun r1 => (Dt.bnd (C.2.1 ((v.2.2.2.1, v.2.2.2.2.1, v.2.2.2.2.2, ()), ())) fun r2 => (Dt.ret ((r1 != r2), v.1, v.2.1, v.2.2.1, v.2.2.2.1, v.2.2.2.2.1, v.2.2.2.2.2))))
theorem ref01_Compare_g2 (C : ref01_Compare_C) (v : ref01_Compare_Y1) : treg tysT (orc (ref01_Compare_tab C)) 36 (regO (bodyOf f23) 2) true [(5, .any), (6, .any), (21, .any)] (ref01_Compare_S1 v) some = (ref01_Compare_r2 C v).eval fun y => some (ref01_Compare_S2 y) := by kernel_rfl
abbrev ref01_Compare_Y3 : Type := Bool
def ref01_Compare_S3 (v : ref01_Compare_Y3) : St := ⟨[(26, .bool v)], []⟩
def ref01_Compare_r3 (C : ref01_Compare_C) (v : ref01_Compare_Y2) : Dt ref01_Compare_Y3 := (Dt.bnd (C.2.1 ((v.2.1, v.2.2.1, v.2.2.2.1, ()), ())) fun r1 => (Dt.bnd (C.2.1 ((v.2.2.2.2.1, v.2.2.2.2.2.1, v.2.2.2.2.2.2, ()), ())) fun r2 => (Dt.ret (decide (r1 < r2)))))
theorem ref01_Compare_g3 (C : ref01_Compare_C) (v : ref01_Compare_Y2) : treg tysT (orc (ref01_Compare_tab C)) 36 (regO (bodyOf f23) 3) true [(26, .any)] (ref01_Compare_S2 v) some = (ref01_Compare_r3 C v).eval fun y => some (ref01_Compare_S3 y) := by kernel_rfl
abbrev ref01_Compare_Y4 : Type := Int
def ref01_Compare_S4 (v : ref01_Compare_Y4) : St := ⟨[(4, .int .i64 v)], []⟩
def ref01_Compare_r4 (C : ref01_Compare_C) (v : ref01_Compare_Y3) : Dt ref01_Compare_Y4 := (Dt.ret (-1:Int))
theorem ref01_Compare_g4 (C : ref01_Compare_C) (v : ref01_Compare_Y3) : treg tysT (orc (ref01_Compare_tab C)) 36 (regO (bodyOf f23) 4) false [(4, .any)] (ref01_Compare_S3 v) some = (ref01_Compare_r4 C v).eval fun y => some (ref01_Compare_S4 y) := by kernel_rfl
def ref01_Compare_r5 (C : ref01_Compare_C) (v : ref01_Compare_Y3) : Dt ref01_Compare_Y4 := (Dt.ret (1:Int))
theorem ref01_Compare_g5 (C : ref01_Compare_C) (v : ref01_Compare_Y3) : treg tysT (orc (ref01_Compare_tab C)) 36 (regO (bodyOf f23) 5) false [(4, .any)] (ref01_Compare_S3 v) some = (ref01_Compare_r5 C v).eval fun y => some (ref01_Compare_S4 y) := by kernel_rfl
abbrev ref01_Compare_Y6 : Type := Bool × Bool × Int × Int × Bool × Int × Int
def ref01_Compare_S6 (v : ref01_Compare_Y6) : St := ⟨[(5, .ptr 0 0), (6, .ptr 1 0), (29, .bool v.1)], [.cells [.bool v.2.1, .int .u64 v.2.2.1, .int .u64 v.2.2.2.1], .cells [.bool v.2.2.2.2.1, .int .u64 v.2.2.2.2.2.1, .int .u64 v.2.2.2.2.2.2]]⟩
def ref01_Compare_r6 (C : ref01_Compare_C) (v : ref01_Compare_Y2) : Dt ref01_Compare_Y6 := (Dt.bnd (C.2.1 ((v.2.1, v.2.2.1, v.2.2.2.1, ()), ())) fun r1 => (Dt.ret ((decide (r1 < (0:Int))), v.2.1, v.2.2.1, v.2.2.2.1, v.2.2.2.2.1, v.2.2.2.2.2.1, v.2.2.2.2.2.2)))
theorem ref01_Compare_g6 (C : ref01_Compare_C) (v : ref01_Compare_Y2) : treg tysT (orc (ref01_Compare_tab C)) 36 (regO (bodyOf f23) 6) false [(5, .any), (6, .any), (29, .any)] (ref01_Compare_S2 v) some = (ref01_Compare_r6 C v).eval fun y => some (ref01_Compare_S6 y) := by kernel_rfl
def ref01_Compare_r7 (C : ref01_Compare_C) (v : ref01_Compare_Y6) : Dt ref01_Compare_Y4 := (Dt.bnd (C.2.2.1 ((v.2.2.2.2.1, v.2.2.2.2.2.1, v.2.2.2.2.2.2, ()), (v.2.1, v.2.2.1, v.2.2.2.1, ()), ())) fun r1 => (Dt.ret r1))
theorem ref01_Compare_g7 (C : ref01_Compare_C) (v : ref01_Compare_Y6) : treg tysT (orc (ref01_Compare_tab C)) 36 (regO (bodyOf f23) 7) false [(4, .any)] (ref01_Compare_S6 v) some = (ref01_Compare_r7 C v).eval fun y => some (ref01_Compare_S4 y) := by kernel_rfl
def ref01_Compare_r8 (C : ref01_Compare_C) (v : ref01_Compare_Y6) : Dt ref01_Compare_Y4 := (Dt.bnd (C.2.2.1 ((v.2.1, v.2.2.1, v.2.2.2.1, ()), (v.2.2.2.2.1, v.2.2.2.2.2.1, v.2.2.2.2.2.2, ()), ())) fun r1 => (Dt.ret r1))
theorem ref01_Compare_g8 (C : ref01_Compare_C) (v : ref01_Compare_Y6) : treg tysT (orc (ref01_Compare_tab C)) 36 (regO (bodyOf f23) 8) false [(4, .any)] (ref01_Compare_S6 v) some = (ref01_Compare_r8 C v).eval fun y => some (ref01_Compare_S4 y) := by kernel_rfl
def F_ref01_Compare (d : Nat) (x : ref01_Compare_X) : Option ref01_Compare_R :=
  (ref01_Compare_r0 (ref01_Compare_K d) (x.1.1, x.1.2.1, x.2.1.1, x.2.1.2.1)).eval fun y0 =>
  (ref01_Compare_r1 (ref01_Compare_K d) y0).eval fun y1 =>
  (ref01_Compare_r2 (ref01_Compare_K d) y1).eval fun y2 =>
  bif y2.1 then ((ref01_Compare_r3 (ref01_Compare_K d) y2).eval fun y3 =>
  bif y3 then ((ref01_Compare_r4 (ref01_Compare_K d) y3).eval fun y4 =>
  some y4) else ((ref01_Compare_r5 (ref01_Compare_K d) y3).eval fun y5 =>
  some y5)) else ((ref01_Compare_r6 (ref01_Compare_K d) y2).eval fun y6 =>
  bif y6.1 then ((ref01_Compare_r7 (ref01_Compare_K d) y6).eval fun y7 =>
  some y7) else ((ref01_Compare_r8 (ref01_Compare_K d) y6).eval fun y8 =>
  some y8))
theorem ref01_Compare_cok (d : Nat) : COK prog (ref01_Compare_sp (F_ref01_Compare d)) := by
  have hm : prog.follows .mixedOrders = true := mixed
  have hT := tys
  have hC0 : OrcOK prog (orc (ref01_Compare_tab (ref01_Compare_K d))) := orc_ok (by
    intro S hS
    simp only [ref01_Compare_tab, List.mem_cons, List.not_mem_nil, or_false] at hS
    rcases hS with rfl | rfl | rfl
    · exact ref01_Product_cok d
    · exact ref01_Sign_cok d
    · exact ref01_less_cok d)
  have hC : OrcOK prog (orc (ref01_Compare_tab (ref01_Compare_K d))) := hC0
  refine cok_of (c := bodyOf f23) (fn := f23) hT (by kernel_rfl) (by kernel_rfl) (by decide) fun x r h w0 φ0 Q hend => ?_
  replace h : F_ref01_Compare d x = some r := h
  unfold F_ref01_Compare at h
  show Run prog w0 φ0 36 (bodyOf f23) ⟨[(0, .agg [.int .i64 x.1.1, .int .i64 x.1.2.1]), (1, .agg [.int .i64 x.2.1.1, .int .i64 x.2.1.2.1])], []⟩ Q
  refine run_seq ?_
  refine run_reg hm hT hC (ref01_Compare_g0 (ref01_Compare_K d) (x.1.1, x.1.2.1, x.2.1.1, x.2.1.2.1)) h ?_
  intro y0 h
  refine cn_then ?_
  refine run_seq ?_
  refine run_reg hm hT hC (ref01_Compare_g1 (ref01_Compare_K d) y0) h ?_
  intro y1 h
  refine cn_then ?_
  refine run_seq ?_
  refine run_seq ?_
  refine run_reg hm hT hC (ref01_Compare_g2 (ref01_Compare_K d) y1) h ?_
  intro y2 h
  refine cn_then ?_
  refine run_cond (v := y2.1) (by kernel_rfl) h ?_ ?_
  ·
    intro h
    refine run_seq ?_
    refine run_seq ?_
    refine run_reg hm hT hC (ref01_Compare_g3 (ref01_Compare_K d) y2) h ?_
    intro y3 h
    refine cn_then ?_
    refine run_cond (v := y3) (by kernel_rfl) h ?_ ?_
    ·
      intro h
      refine run_seq ?_
      refine run_reg hm hT hC (ref01_Compare_g4 (ref01_Compare_K d) y3) h ?_
      intro y4 h
      refine cn_then ?_
      refine run_ret ?_
      refine cn_then_ret ?_
      refine cn_then_ret ?_
      cases h
      exact (hend _ (by kernel_rfl)).2
    ·
      intro h
      refine run_skip ?_
      refine cn_then ?_
      refine run_seq ?_
      refine run_reg hm hT hC (ref01_Compare_g5 (ref01_Compare_K d) y3) h ?_
      intro y5 h
      refine cn_then ?_
      refine run_ret ?_
      refine cn_then_ret ?_
      cases h
      exact (hend _ (by kernel_rfl)).2
  ·
    intro h
    refine run_skip ?_
    refine cn_then ?_
    refine run_seq ?_
    refine run_seq ?_
    refine run_reg hm hT hC (ref01_Compare_g6 (ref01_Compare_K d) y2) h ?_
    intro y6 h
    refine cn_then ?_
    refine run_cond (v := y6.1) (by kernel_rfl) h ?_ ?_
    ·
      intro h
      refine run_seq ?_
      refine run_reg hm hT hC (ref01_Compare_g7 (ref01_Compare_K d) y6) h ?_
      intro y7 h
      refine cn_then ?_
      refine run_ret ?_
      refine cn_then_ret ?_
      cases h
      exact (hend _ (by kernel_rfl)).2
    ·
      intro h
      refine run_skip ?_
      refine cn_then ?_
      refine run_seq ?_
      refine run_reg hm hT hC (ref01_Compare_g8 (ref01_Compare_K d) y6) h ?_
      intro y8 h
      refine cn_then ?_
      refine run_ret ?_
      cases h
      exact (hend _ (by kernel_rfl)).2
abbrev ref02_Met_ps : List Pk := [.row Riii true, .row Riii true]
abbrev ref02_Met_X : Type := Diii × Diii × Unit
abbrev ref02_Met_R : Type := Int × Int
def ref02_Met_enc (r : ref02_Met_R) : LV × List Ob := (.agg [.int .i64 r.1, .int .i64 r.2], [])
def ref02_Met_sp (F : ref02_Met_X → Option ref02_Met_R) : Go.Tx.Spec := ⟨77, ref02_Met_ps, ref02_Met_R, F, ref02_Met_enc⟩
abbrev ref02_Met_C : Type := (ref01_Make_X → Option ref01_Make_R) × Unit
def ref02_Met_K (d : Nat) : ref02_Met_C := (F_ref01_Make d, ())
def ref02_Met_tab (C : ref02_Met_C) : List Go.Tx.Spec := [ref01_Make_sp C.1]
abbrev ref02_Met_Y0i : Type := Int × Int × Int × Int × Int × Int
def ref02_Met_S0i (v : ref02_Met_Y0i) : St := ⟨[(0, .agg [.int .i64 v.1, .int .i64 v.2.1, .int .i64 v.2.2.1]), (1, .agg [.int .i64 v.2.2.2.1, .int .i64 v.2.2.2.2.1, .int .i64 v.2.2.2.2.2])], []⟩
abbrev ref02_Met_Y0 : Type := Int × Int × Int × Int × Int × Int × Int × Int
def ref02_Met_S0 (v : ref02_Met_Y0) : St := ⟨[(2, .ptr 0 0), (3, .ptr 1 0), (4, .ptr 2 0)], [.cells [.int .i64 v.1, .int .i64 v.2.1, .int .i64 v.2.2.1], .cells [.int .i64 v.2.2.2.1, .int .i64 v.2.2.2.2.1, .int .i64 v.2.2.2.2.2.1], .cells [.int .i64 v.2.2.2.2.2.2.1, .int .i64 v.2.2.2.2.2.2.2]]⟩
def ref02_Met_r0 (C : ref02_Met_C) (v : ref02_Met_Y0i) : Dt ref02_Met_Y0 := (Dt.ret (v.1, v.2.1, v.2.2.1, v.2.2.2.1, v.2.2.2.2.1, v.2.2.2.2.2, (0:Int), (0:Int)))
theorem ref02_Met_g0 (C : ref02_Met_C) (v : ref02_Met_Y0i) : treg tysT (orc (ref02_Met_tab C)) 22 (regO (bodyOf f77) 0) false [(2, .any), (3, .any), (4, .any)] (ref02_Met_S0i v) some = (ref02_Met_r0 C v).eval fun y => some (ref02_Met_S0 y) := by kernel_rfl
abbrev ref02_Met_Y1 : Type := Int × Int × Int × Int
def ref02_Met_S1 (v : ref02_Met_Y1) : St := ⟨[(4, .ptr 0 0), (5, .ptr 1 0)], [.cells [.int .i64 v.1, .int .i64 v.2.1], .cells [.int .i64 v.2.2.1, .int .i64 v.2.2.2]]⟩
def ref02_Met_r1 (C : ref02_Met_C) (v : ref02_Met_Y0) : Dt ref02_Met_Y1 := (Dt.bnd (C.1 (((IntKind.wrap .i64 (v.2.1 - v.2.2.2.2.1)), ()), ((IntKind.wrap .i64 (v.2.2.2.2.2.1 - v.2.2.1)), ()), ())) fun r1 => (Dt.ret (v.2.2.2.2.2.2.1, v.2.2.2.2.2.2.2, r1.1, r1.2.1)))
theorem ref02_Met_g1 (C : ref02_Met_C) (v : ref02_Met_Y0) : treg tysT (orc (ref02_Met_tab C)) 22 (regO (bodyOf f77) 1) false [(4, .any), (5, .any)] (ref02_Met_S0 v) some = (ref02_Met_r1 C v).eval fun y => some (ref02_Met_S1 y) := by kernel_rfl
abbrev ref02_Met_Y2 : Type := Int × Int
def ref02_Met_S2 (v : ref02_Met_Y2) : St := ⟨[(4, .ptr 0 0)], [.cells [.int .i64 v.1, .int .i64 v.2]]⟩
def ref02_Met_r2 (C : ref02_Met_C) (v : ref02_Met_Y1) : Dt ref02_Met_Y2 := (Dt.ret (v.2.2.1, v.2.2.2))
theorem ref02_Met_g2 (C : ref02_Met_C) (v : ref02_Met_Y1) : treg tysT (orc (ref02_Met_tab C)) 22 (regO (bodyOf f77) 2) false [(4, .any)] (ref02_Met_S1 v) some = (ref02_Met_r2 C v).eval fun y => some (ref02_Met_S2 y) := by kernel_rfl
def F_ref02_Met (d : Nat) (x : ref02_Met_X) : Option ref02_Met_R :=
  (ref02_Met_r0 (ref02_Met_K d) (x.1.1, x.1.2.1, x.1.2.2.1, x.2.1.1, x.2.1.2.1, x.2.1.2.2.1)).eval fun y0 =>
  (ref02_Met_r1 (ref02_Met_K d) y0).eval fun y1 =>
  (ref02_Met_r2 (ref02_Met_K d) y1).eval fun y2 =>
  some y2
theorem ref02_Met_cok (d : Nat) : COK prog (ref02_Met_sp (F_ref02_Met d)) := by
  have hm : prog.follows .mixedOrders = true := mixed
  have hT := tys
  have hC0 : OrcOK prog (orc (ref02_Met_tab (ref02_Met_K d))) := orc_ok (by
    intro S hS
    simp only [ref02_Met_tab, List.mem_cons, List.not_mem_nil, or_false] at hS
    subst hS; exact ref01_Make_cok d)
  have hC : OrcOK prog (orc (ref02_Met_tab (ref02_Met_K d))) := hC0
  refine cok_of (c := bodyOf f77) (fn := f77) hT (by kernel_rfl) (by kernel_rfl) (by decide) fun x r h w0 φ0 Q hend => ?_
  replace h : F_ref02_Met d x = some r := h
  unfold F_ref02_Met at h
  show Run prog w0 φ0 22 (bodyOf f77) ⟨[(0, .agg [.int .i64 x.1.1, .int .i64 x.1.2.1, .int .i64 x.1.2.2.1]), (1, .agg [.int .i64 x.2.1.1, .int .i64 x.2.1.2.1, .int .i64 x.2.1.2.2.1])], []⟩ Q
  refine run_seq ?_
  refine run_reg hm hT hC (ref02_Met_g0 (ref02_Met_K d) (x.1.1, x.1.2.1, x.1.2.2.1, x.2.1.1, x.2.1.2.1, x.2.1.2.2.1)) h ?_
  intro y0 h
  refine cn_then ?_
  refine run_seq ?_
  refine run_reg hm hT hC (ref02_Met_g1 (ref02_Met_K d) y0) h ?_
  intro y1 h
  refine cn_then ?_
  refine run_seq ?_
  refine run_reg hm hT hC (ref02_Met_g2 (ref02_Met_K d) y1) h ?_
  intro y2 h
  refine cn_then ?_
  refine run_ret ?_
  cases h
  exact (hend _ (by kernel_rfl)).2
abbrev ref05_Crest_ps : List Pk := [.row RLiiiE true, .row Rii true]
abbrev ref05_Crest_X : Type := DLiiiE × Dii × Unit
abbrev ref05_Crest_R : Type := List Diii
def ref05_Crest_enc (r : ref05_Crest_R) : LV × List Ob := (.rs 0, [.rows Riii r])
def ref05_Crest_sp (F : ref05_Crest_X → Option ref05_Crest_R) : Go.Tx.Spec := ⟨50, ref05_Crest_ps, ref05_Crest_R, F, ref05_Crest_enc⟩
abbrev ref05_Crest_C : Type := (ref01_Compare_X → Option ref01_Compare_R) × (ref03_At_X → Option ref03_At_R) × (ref03_Ordered_X → Option ref03_Ordered_R) × (ref02_Met_X → Option ref02_Met_R) × Unit
def ref05_Crest_K (d : Nat) : ref05_Crest_C := (F_ref01_Compare d, F_ref03_At d, F_ref03_Ordered d, F_ref02_Met d, ())
def ref05_Crest_tab (C : ref05_Crest_C) : List Go.Tx.Spec := [ref01_Compare_sp C.1, ref03_At_sp C.2.1, ref03_Ordered_sp C.2.2.1, ref02_Met_sp C.2.2.2.1]
abbrev ref05_Crest_Y0i : Type := List Diii × Int × Int
def ref05_Crest_S0i (v : ref05_Crest_Y0i) : St := ⟨[(0, .agg [.fz Riii v.1]), (1, .agg [.int .i64 v.2.1, .int .i64 v.2.2])], []⟩
abbrev ref05_Crest_Y0 : Type := List Diii × Int × Int
def ref05_Crest_S0 (v : ref05_Crest_Y0) : St := ⟨[(2, .ptr 0 0), (3, .ptr 1 0)], [.cells [.fz Riii v.1], .cells [.int .i64 v.2.1, .int .i64 v.2.2]]⟩
def ref05_Crest_r0 (C : ref05_Crest_C) (v : ref05_Crest_Y0i) : Dt ref05_Crest_Y0 := (Dt.ret (v.1, v.2.1, v.2.2))
theorem ref05_Crest_g0 (C : ref05_Crest_C) (v : ref05_Crest_Y0i) : treg tysT (orc (ref05_Crest_tab C)) 80 (regO (bodyOf f50) 0) false [(2, (.box [.val Riii])), (3, .any)] (ref05_Crest_S0i v) some = (ref05_Crest_r0 C v).eval fun y => some (ref05_Crest_S0 y) := by kernel_rfl
abbrev ref05_Crest_Y1 : Type := List Diii × Int × Int
def ref05_Crest_S1 (v : ref05_Crest_Y1) : St := ⟨[(2, .ptr 0 0), (5, .ptr 1 0)], [.cells [.fz Riii v.1], .cells [.int .i64 v.2.1, .int .i64 v.2.2]]⟩
def ref05_Crest_r1 (C : ref05_Crest_C) (v : ref05_Crest_Y0) : Dt ref05_Crest_Y1 := (Dt.ret (v.1, v.2.1, v.2.2))
theorem ref05_Crest_g1 (C : ref05_Crest_C) (v : ref05_Crest_Y0) : treg tysT (orc (ref05_Crest_tab C)) 80 (regO (bodyOf f50) 1) false [(2, (.box [.val Riii])), (5, .any)] (ref05_Crest_S0 v) some = (ref05_Crest_r1 C v).eval fun y => some (ref05_Crest_S1 y) := by kernel_rfl
abbrev ref05_Crest_Y2 : Type := List Diii × List Diii
def ref05_Crest_S2 (v : ref05_Crest_Y2) : St := ⟨[(2, .ptr 0 0), (6, .rs 1)], [.cells [.fz Riii v.1], .rows Riii v.2]⟩
def ref05_Crest_r2 (C : ref05_Crest_C) (v : ref05_Crest_Y1) : Dt ref05_Crest_Y2 := (Dt.bnd (C.2.2.1 ((v.1, ()), (v.2.1, v.2.2, ()), ())) fun r1 => (Dt.ite (inB (0:Int) (List.length r1)) (Dt.ret (v.1, ([(v.2.1, v.2.2, (elt zi r1 ((0:Int)).toNat).1, ())] : List Diii))) Dt.fail))
theorem ref05_Crest_g2 (C : ref05_Crest_C) (v : ref05_Crest_Y1) : treg tysT (orc (ref05_Crest_tab C)) 80 (regO (bodyOf f50) 2) true [(2, (.box [.val Riii])), (6, (.own Riii))] (ref05_Crest_S1 v) some = (ref05_Crest_r2 C v).eval fun y => some (ref05_Crest_S2 y) := by kernel_rfl
abbrev ref05_Crest_Y3 : Type := List Diii × List Diii × Int × Int × Int
def ref05_Crest_S3 (v : ref05_Crest_Y3) : St := ⟨[(2, .ptr 0 0), (6, .rs 1), (7, .ptr 2 0)], [.cells [.fz Riii v.1], .rows Riii v.2.1, .cells [.int .i64 v.2.2.1, .int .i64 v.2.2.2.1, .int .i64 v.2.2.2.2]]⟩
def ref05_Crest_r3 (C : ref05_Crest_C) (v : ref05_Crest_Y2) : Dt ref05_Crest_Y3 := (Dt.ite (inB (IntKind.wrap .i64 ((List.length v.2 : Int) - (1:Int))) (List.length v.2)) (Dt.bnd (C.2.1 ((v.1, ()), ((elt ziii v.2 ((IntKind.wrap .i64 ((List.length v.2 : Int) - (1:Int)))).toNat).2.2.1, ()), ())) fun r1 => (Dt.ite (inB r1 (List.length v.1)) (Dt.ret (v.1, v.2, (elt ziii v.1 (r1).toNat).1, (elt ziii v.1 (r1).toNat).2.1, (elt ziii v.1 (r1).toNat).2.2.1)) Dt.fail)) Dt.fail)
theorem ref05_Crest_g3 (C : ref05_Crest_C) (v : ref05_Crest_Y2) : treg tysT (orc (ref05_Crest_tab C)) 80 (regO (bodyOf f50) 3) true [(2, (.box [.val Riii])), (6, (.own Riii)), (7, .any)] (ref05_Crest_S2 v) some = (ref05_Crest_r3 C v).eval fun y => some (ref05_Crest_S3 y) := by kernel_rfl
abbrev ref05_Crest_Y4 : Type := Bool × List Diii × List Diii × Int × Int × Int × Int × Int
def ref05_Crest_S4 (v : ref05_Crest_Y4) : St := ⟨[(2, .ptr 0 0), (6, .rs 1), (7, .ptr 2 0), (8, .ptr 3 0), (9, .bool v.1)], [.cells [.fz Riii v.2.1], .rows Riii v.2.2.1, .cells [.int .i64 v.2.2.2.1, .int .i64 v.2.2.2.2.1, .int .i64 v.2.2.2.2.2.1], .cells [.int .i64 v.2.2.2.2.2.2.1, .int .i64 v.2.2.2.2.2.2.2]]⟩
def ref05_Crest_r4 (C : ref05_Crest_C) (v : ref05_Crest_Y3) : Dt ref05_Crest_Y4 := (Dt.ret (false, v.1, v.2.1, v.2.2.1, v.2.2.2.1, v.2.2.2.2, (0:Int), (0:Int)))
theorem ref05_Crest_g4 (C : ref05_Crest_C) (v : ref05_Crest_Y3) : treg tysT (orc (ref05_Crest_tab C)) 80 (regO (bodyOf f50) 4) false [(2, (.box [.val Riii])), (6, (.own Riii)), (7, .any), (8, .any), (9, .any)] (ref05_Crest_S3 v) some = (ref05_Crest_r4 C v).eval fun y => some (ref05_Crest_S4 y) := by kernel_rfl
abbrev ref05_Crest_Y5 : Type := Bool × Int × List Diii × List Diii × Int × Int × Int × Int × Int
def ref05_Crest_S5 (v : ref05_Crest_Y5) : St := ⟨[(2, .ptr 0 0), (6, .rs 1), (7, .ptr 2 0), (8, .ptr 3 0), (9, .bool v.1), (10, .int .i64 v.2.1)], [.cells [.fz Riii v.2.2.1], .rows Riii v.2.2.2.1, .cells [.int .i64 v.2.2.2.2.1, .int .i64 v.2.2.2.2.2.1, .int .i64 v.2.2.2.2.2.2.1], .cells [.int .i64 v.2.2.2.2.2.2.2.1, .int .i64 v.2.2.2.2.2.2.2.2]]⟩
def ref05_Crest_r5 (C : ref05_Crest_C) (v : ref05_Crest_Y4) : Dt ref05_Crest_Y5 := (Dt.ret (v.1, (0:Int), v.2.1, v.2.2.1, v.2.2.2.1, v.2.2.2.2.1, v.2.2.2.2.2.1, v.2.2.2.2.2.2.1, v.2.2.2.2.2.2.2))
theorem ref05_Crest_g5 (C : ref05_Crest_C) (v : ref05_Crest_Y4) : treg tysT (orc (ref05_Crest_tab C)) 80 (regO (bodyOf f50) 5) false [(2, (.box [.val Riii])), (6, (.own Riii)), (7, .any), (8, .any), (9, .any), (10, .any)] (ref05_Crest_S4 v) some = (ref05_Crest_r5 C v).eval fun y => some (ref05_Crest_S5 y) := by kernel_rfl
abbrev ref05_Crest_Y6 : Type := Bool × Int × Bool × List Diii × List Diii × Int × Int × Int × Int × Int
def ref05_Crest_S6 (v : ref05_Crest_Y6) : St := ⟨[(2, .ptr 0 0), (6, .rs 1), (7, .ptr 2 0), (8, .ptr 3 0), (9, .bool v.1), (10, .int .i64 v.2.1), (39, .bool v.2.2.1)], [.cells [.fz Riii v.2.2.2.1], .rows Riii v.2.2.2.2.1, .cells [.int .i64 v.2.2.2.2.2.1, .int .i64 v.2.2.2.2.2.2.1, .int .i64 v.2.2.2.2.2.2.2.1], .cells [.int .i64 v.2.2.2.2.2.2.2.2.1, .int .i64 v.2.2.2.2.2.2.2.2.2]]⟩
def ref05_Crest_r6 (C : ref05_Crest_C) (v : ref05_Crest_Y5) : Dt ref05_Crest_Y6 := (Dt.ret (v.1, v.2.1, (decide (v.2.1 < (List.length v.2.2.1 : Int))), v.2.2.1, v.2.2.2.1, v.2.2.2.2.1, v.2.2.2.2.2.1, v.2.2.2.2.2.2.1, v.2.2.2.2.2.2.2.1, v.2.2.2.2.2.2.2.2))
theorem ref05_Crest_g6 (C : ref05_Crest_C) (v : ref05_Crest_Y5) : treg tysT (orc (ref05_Crest_tab C)) 80 (regO (bodyOf f50) 6) false [(2, (.box [.val Riii])), (6, (.own Riii)), (7, .any), (8, .any), (9, .any), (10, .any), (39, .any)] (ref05_Crest_S5 v) some = (ref05_Crest_r6 C v).eval fun y => some (ref05_Crest_S6 y) := by kernel_rfl
abbrev ref05_Crest_Y8 : Type := Bool × Int × Bool × List Diii × List Diii × Int × Int × Int × Int × Int
def ref05_Crest_S8 (v : ref05_Crest_Y8) : St := ⟨[(2, .ptr 0 0), (6, .rs 1), (7, .ptr 2 0), (8, .ptr 3 0), (9, .bool v.1), (10, .int .i64 v.2.1), (50, .bool v.2.2.1)], [.cells [.fz Riii v.2.2.2.1], .rows Riii v.2.2.2.2.1, .cells [.int .i64 v.2.2.2.2.2.1, .int .i64 v.2.2.2.2.2.2.1, .int .i64 v.2.2.2.2.2.2.2.1], .cells [.int .i64 v.2.2.2.2.2.2.2.2.1, .int .i64 v.2.2.2.2.2.2.2.2.2]]⟩
def ref05_Crest_r8 (C : ref05_Crest_C) (v : ref05_Crest_Y6) : Dt ref05_Crest_Y8 := (Dt.ite (inB v.2.1 (List.length v.2.2.2.1)) (Dt.ret (v.1, v.2.1, (decide ((elt ziii v.2.2.2.1 (v.2.1).toNat).2.2.1 ≤ v.2.2.2.2.2.2.2.1)), v.2.2.2.1, v.2.2.2.2.1, v.2.2.2.2.2.1, v.2.2.2.2.2.2.1, v.2.2.2.2.2.2.2.1, v.2.2.2.2.2.2.2.2.1, v.2.2.2.2.2.2.2.2.2)) Dt.fail)
theorem ref05_Crest_g8 (C : ref05_Crest_C) (v : ref05_Crest_Y6) : treg tysT (orc (ref05_Crest_tab C)) 80 (regO (bodyOf f50) 8) true [(2, (.box [.val Riii])), (6, (.own Riii)), (7, .any), (8, .any), (9, .any), (10, .any), (50, .any)] (ref05_Crest_S6 v) some = (ref05_Crest_r8 C v).eval fun y => some (ref05_Crest_S8 y) := by kernel_rfl
def ref05_Crest_r7 (C : ref05_Crest_C) (v : ref05_Crest_Y5) : Dt ref05_Crest_Y5 := (Dt.ret (v.1, (IntKind.wrap .i64 (v.2.1 + (1:Int))), v.2.2.1, v.2.2.2.1, v.2.2.2.2.1, v.2.2.2.2.2.1, v.2.2.2.2.2.2.1, v.2.2.2.2.2.2.2.1, v.2.2.2.2.2.2.2.2))
theorem ref05_Crest_g7 (C : ref05_Crest_C) (v : ref05_Crest_Y5) : treg tysT (orc (ref05_Crest_tab C)) 80 (regO (bodyOf f50) 7) false [(2, (.box [.val Riii])), (6, (.own Riii)), (7, .any), (8, .any), (9, .any), (10, .any)] (ref05_Crest_S5 v) some = (ref05_Crest_r7 C v).eval fun y => some (ref05_Crest_S5 y) := by kernel_rfl
def ref05_Crest_J3  (d : Nat) (self1 : (List Diii × List Diii) → Option ref05_Crest_R) (self2 : (Bool × Int × List Diii × List Diii × Int × Int × Int × Int × Int) → Option ref05_Crest_R) (z : Bool × Int × List Diii × List Diii × Int × Int × Int × Int × Int) : Option (ref05_Crest_R) :=
  (ref05_Crest_r7 (ref05_Crest_K d) z).eval fun y7 =>
  self2 y7
abbrev ref05_Crest_Y9 : Type := Bool × Int × List Diii × List Diii × Int × Int × Int × Int × Int × Int × Int
def ref05_Crest_S9 (v : ref05_Crest_Y9) : St := ⟨[(2, .ptr 0 0), (6, .rs 1), (7, .ptr 2 0), (8, .ptr 3 0), (9, .bool v.1), (10, .int .i64 v.2.1), (11, .ptr 4 0)], [.cells [.fz Riii v.2.2.1], .rows Riii v.2.2.2.1, .cells [.int .i64 v.2.2.2.2.1, .int .i64 v.2.2.2.2.2.1, .int .i64 v.2.2.2.2.2.2.1], .cells [.int .i64 v.2.2.2.2.2.2.2.1, .int .i64 v.2.2.2.2.2.2.2.2.1], .cells [.int .i64 v.2.2.2.2.2.2.2.2.2.1, .int .i64 v.2.2.2.2.2.2.2.2.2.2]]⟩
def ref05_Crest_r9 (C : ref05_Crest_C) (v : ref05_Crest_Y8) : Dt ref05_Crest_Y9 := (Dt.ite (inB v.2.1 (List.length v.2.2.2.1)) (Dt.bnd (C.2.2.2.1 ((v.2.2.2.2.2.1, v.2.2.2.2.2.2.1, v.2.2.2.2.2.2.2.1, ()), ((elt ziii v.2.2.2.1 (v.2.1).toNat).1, (elt ziii v.2.2.2.1 (v.2.1).toNat).2.1, (elt ziii v.2.2.2.1 (v.2.1).toNat).2.2.1, ()), ())) fun r1 => (Dt.ret (v.1, v.2.1, v.2.2.2.1, v.2.2.2.2.1, v.2.2.2.2.2.1, v.2.2.2.2.2.2.1, v.2.2.2.2.2.2.2.1, v.2.2.2.2.2.2.2.2.1, v.2.2.2.2.2.2.2.2.2, r1.1, r1.2))) Dt.fail)
theorem ref05_Crest_g9 (C : ref05_Crest_C) (v : ref05_Crest_Y8) : treg tysT (orc (ref05_Crest_tab C)) 80 (regO (bodyOf f50) 9) true [(2, (.box [.val Riii])), (6, (.own Riii)), (7, .any), (8, .any), (9, .any), (10, .any), (11, .any)] (ref05_Crest_S8 v) some = (ref05_Crest_r9 C v).eval fun y => some (ref05_Crest_S9 y) := by kernel_rfl
abbrev ref05_Crest_Y10 : Type := Bool × Int × Bool × List Diii × List Diii × Int × Int × Int × Int × Int × Int × Int
def ref05_Crest_S10 (v : ref05_Crest_Y10) : St := ⟨[(2, .ptr 0 0), (6, .rs 1), (7, .ptr 2 0), (8, .ptr 3 0), (9, .bool v.1), (10, .int .i64 v.2.1), (11, .ptr 4 0), (65, .bool v.2.2.1)], [.cells [.fz Riii v.2.2.2.1], .rows Riii v.2.2.2.2.1, .cells [.int .i64 v.2.2.2.2.2.1, .int .i64 v.2.2.2.2.2.2.1, .int .i64 v.2.2.2.2.2.2.2.1], .cells [.int .i64 v.2.2.2.2.2.2.2.2.1, .int .i64 v.2.2.2.2.2.2.2.2.2.1], .cells [.int .i64 v.2.2.2.2.2.2.2.2.2.2.1, .int .i64 v.2.2.2.2.2.2.2.2.2.2.2]]⟩
def ref05_Crest_r10 (C : ref05_Crest_C) (v : ref05_Crest_Y9) : Dt ref05_Crest_Y10 := (Dt.ite (!v.1) (Dt.ret (v.1, v.2.1, true, v.2.2.1, v.2.2.2.1, v.2.2.2.2.1, v.2.2.2.2.2.1, v.2.2.2.2.2.2.1, v.2.2.2.2.2.2.2.1, v.2.2.2.2.2.2.2.2.1, v.2.2.2.2.2.2.2.2.2.1, v.2.2.2.2.2.2.2.2.2.2)) (Dt.bnd (C.1 ((v.2.2.2.2.2.2.2.2.2.1, v.2.2.2.2.2.2.2.2.2.2, ()), (v.2.2.2.2.2.2.2.1, v.2.2.2.2.2.2.2.2.1, ()), ())) fun r1 => (Dt.ret (v.1, v.2.1, (decide (r1 < (0:Int))), v.2.2.1, v.2.2.2.1, v.2.2.2.2.1, v.2.2.2.2.2.1, v.2.2.2.2.2.2.1, v.2.2.2.2.2.2.2.1, v.2.2.2.2.2.2.2.2.1, v.2.2.2.2.2.2.2.2.2.1, v.2.2.2.2.2.2.2.2.2.2))))
theorem ref05_Crest_g10 (C : ref05_Crest_C) (v : ref05_Crest_Y9) : treg tysT (orc (ref05_Crest_tab C)) 80 (regO (bodyOf f50) 10) false [(2, (.box [.val Riii])), (6, (.own Riii)), (7, .any), (8, .any), (9, .any), (10, .any), (11, .any), (65, .any)] (ref05_Crest_S9 v) some = (ref05_Crest_r10 C v).eval fun y => some (ref05_Crest_S10 y) := by kernel_rfl
def ref05_Crest_r11 (C : ref05_Crest_C) (v : ref05_Crest_Y10) : Dt ref05_Crest_Y5 := (Dt.ret (true, v.2.1, v.2.2.2.1, v.2.2.2.2.1, v.2.2.2.2.2.1, v.2.2.2.2.2.2.1, v.2.2.2.2.2.2.2.1, v.2.2.2.2.2.2.2.2.2.2.1, v.2.2.2.2.2.2.2.2.2.2.2))
theorem ref05_Crest_g11 (C : ref05_Crest_C) (v : ref05_Crest_Y10) : treg tysT (orc (ref05_Crest_tab C)) 80 (regO (bodyOf f50) 11) false [(2, (.box [.val Riii])), (6, (.own Riii)), (7, .any), (8, .any), (9, .any), (10, .any)] (ref05_Crest_S10 v) some = (ref05_Crest_r11 C v).eval fun y => some (ref05_Crest_S5 y) := by kernel_rfl
abbrev ref05_Crest_Y12 : Type := Bool × List Diii × List Diii × Int × Int
def ref05_Crest_S12 (v : ref05_Crest_Y12) : St := ⟨[(2, .ptr 0 0), (6, .rs 1), (8, .ptr 2 0), (68, .bool v.1)], [.cells [.fz Riii v.2.1], .rows Riii v.2.2.1, .cells [.int .i64 v.2.2.2.1, .int .i64 v.2.2.2.2]]⟩
def ref05_Crest_r12 (C : ref05_Crest_C) (v : ref05_Crest_Y6) : Dt ref05_Crest_Y12 := (Dt.ret ((!v.1), v.2.2.2.1, v.2.2.2.2.1, v.2.2.2.2.2.2.2.2.1, v.2.2.2.2.2.2.2.2.2))
theorem ref05_Crest_g12 (C : ref05_Crest_C) (v : ref05_Crest_Y6) : treg tysT (orc (ref05_Crest_tab C)) 80 (regO (bodyOf f50) 12) false [(2, (.box [.val Riii])), (6, (.own Riii)), (8, .any), (68, .any)] (ref05_Crest_S6 v) some = (ref05_Crest_r12 C v).eval fun y => some (ref05_Crest_S12 y) := by kernel_rfl
abbrev ref05_Crest_Y13 : Type := List Diii
def ref05_Crest_S13 (v : ref05_Crest_Y13) : St := ⟨[(4, .rs 0)], [.rows Riii v]⟩
def ref05_Crest_r13 (C : ref05_Crest_C) (v : ref05_Crest_Y12) : Dt ref05_Crest_Y13 := (Dt.ret v.2.2.1)
theorem ref05_Crest_g13 (C : ref05_Crest_C) (v : ref05_Crest_Y12) : treg tysT (orc (ref05_Crest_tab C)) 80 (regO (bodyOf f50) 13) false [(4, (.own Riii))] (ref05_Crest_S12 v) some = (ref05_Crest_r13 C v).eval fun y => some (ref05_Crest_S13 y) := by kernel_rfl
def ref05_Crest_r14 (C : ref05_Crest_C) (v : ref05_Crest_Y12) : Dt ref05_Crest_Y2 := (Dt.bnd (C.2.2.1 ((v.2.1, ()), (v.2.2.2.1, v.2.2.2.2, ()), ())) fun r1 => (Dt.ite (inB (0:Int) (List.length r1)) (Dt.ite (apB (List.length v.2.2.1) (List.length ([(v.2.2.2.1, v.2.2.2.2, (elt zi r1 ((0:Int)).toNat).1, ())] : List Diii))) (Dt.ret (v.2.1, (v.2.2.1 ++ ([(v.2.2.2.1, v.2.2.2.2, (elt zi r1 ((0:Int)).toNat).1, ())] : List Diii)))) Dt.fail) Dt.fail))
theorem ref05_Crest_g14 (C : ref05_Crest_C) (v : ref05_Crest_Y12) : treg tysT (orc (ref05_Crest_tab C)) 80 (regO (bodyOf f50) 14) true [(2, (.box [.val Riii])), (6, (.own Riii))] (ref05_Crest_S12 v) some = (ref05_Crest_r14 C v).eval fun y => some (ref05_Crest_S2 y) := by kernel_rfl
def ref05_Crest_L2 (d : Nat) (self1 : (List Diii × List Diii) → Option ref05_Crest_R) (self2 : (Bool × Int × List Diii × List Diii × Int × Int × Int × Int × Int) → Option ref05_Crest_R) (x2 : Bool × Int × List Diii × List Diii × Int × Int × Int × Int × Int) : Option ref05_Crest_R :=
  (ref05_Crest_r6 (ref05_Crest_K d) x2).eval fun y6 =>
  bif y6.2.2.1 then ((ref05_Crest_r8 (ref05_Crest_K d) y6).eval fun y8 =>
  bif y8.2.2.1 then (ref05_Crest_J3 d self1 self2 (y8.1, y8.2.1, y8.2.2.2.1, y8.2.2.2.2.1, y8.2.2.2.2.2.1, y8.2.2.2.2.2.2.1, y8.2.2.2.2.2.2.2.1, y8.2.2.2.2.2.2.2.2.1, y8.2.2.2.2.2.2.2.2.2)) else ((ref05_Crest_r9 (ref05_Crest_K d) y8).eval fun y9 =>
  (ref05_Crest_r10 (ref05_Crest_K d) y9).eval fun y10 =>
  bif y10.2.2.1 then ((ref05_Crest_r11 (ref05_Crest_K d) y10).eval fun y11 =>
  ref05_Crest_J3 d self1 self2 y11) else (ref05_Crest_J3 d self1 self2 (y10.1, y10.2.1, y10.2.2.2.1, y10.2.2.2.2.1, y10.2.2.2.2.2.1, y10.2.2.2.2.2.2.1, y10.2.2.2.2.2.2.2.1, y10.2.2.2.2.2.2.2.2.1, y10.2.2.2.2.2.2.2.2.2.1)))) else ((ref05_Crest_r12 (ref05_Crest_K d) y6).eval fun y12 =>
  bif y12.1 then ((ref05_Crest_r13 (ref05_Crest_K d) y12).eval fun y13 =>
  some y13) else ((ref05_Crest_r14 (ref05_Crest_K d) y12).eval fun y14 =>
  self1 y14))
def ref05_Crest_L1 (d : Nat) (self1 : (List Diii × List Diii) → Option ref05_Crest_R) (x1 : List Diii × List Diii) : Option ref05_Crest_R :=
  (ref05_Crest_r3 (ref05_Crest_K d) x1).eval fun y3 =>
  (ref05_Crest_r4 (ref05_Crest_K d) y3).eval fun y4 =>
  (ref05_Crest_r5 (ref05_Crest_K d) y4).eval fun y5 =>
  iter (ref05_Crest_L2 d self1) d y5
def F_ref05_Crest (d : Nat) (x : ref05_Crest_X) : Option ref05_Crest_R :=
  (ref05_Crest_r0 (ref05_Crest_K d) (x.1.1, x.2.1.1, x.2.1.2.1)).eval fun y0 =>
  (ref05_Crest_r1 (ref05_Crest_K d) y0).eval fun y1 =>
  (ref05_Crest_r2 (ref05_Crest_K d) y1).eval fun y2 =>
  iter (ref05_Crest_L1 d ) d y2
theorem ref05_Crest_cok (d : Nat) : COK prog (ref05_Crest_sp (F_ref05_Crest d)) := by
  have hm : prog.follows .mixedOrders = true := mixed
  have hT := tys
  have hC0 : OrcOK prog (orc (ref05_Crest_tab (ref05_Crest_K d))) := orc_ok (by
    intro S hS
    simp only [ref05_Crest_tab, List.mem_cons, List.not_mem_nil, or_false] at hS
    rcases hS with rfl | rfl | rfl | rfl
    · exact ref01_Compare_cok d
    · exact ref03_At_cok d
    · exact ref03_Ordered_cok d
    · exact ref02_Met_cok d)
  have hC : OrcOK prog (orc (ref05_Crest_tab (ref05_Crest_K d))) := hC0
  refine cok_of (c := bodyOf f50) (fn := f50) hT (by kernel_rfl) (by kernel_rfl) (by decide) fun x r h w0 φ0 Q hend => ?_
  replace h : F_ref05_Crest d x = some r := h
  unfold F_ref05_Crest at h
  show Run prog w0 φ0 80 (bodyOf f50) ⟨[(0, .agg [.fz Riii x.1.1]), (1, .agg [.int .i64 x.2.1.1, .int .i64 x.2.1.2.1])], []⟩ Q
  refine run_seq ?_
  refine run_reg hm hT hC (ref05_Crest_g0 (ref05_Crest_K d) (x.1.1, x.2.1.1, x.2.1.2.1)) h ?_
  intro y0 h
  refine cn_then ?_
  refine run_seq ?_
  refine run_reg hm hT hC (ref05_Crest_g1 (ref05_Crest_K d) y0) h ?_
  intro y1 h
  refine cn_then ?_
  refine run_seq ?_
  refine run_reg hm hT hC (ref05_Crest_g2 (ref05_Crest_K d) y1) h ?_
  intro y2 h
  refine cn_then ?_
  refine run_block ?_
  refine run_loop (G := iter (ref05_Crest_L1 d )) (S := (fun x1 => ⟨[(2, .ptr 0 0), (6, .rs 1)], [.cells [.fz Riii x1.1], .rows Riii x1.2]⟩ : List Diii × List Diii → St)) (fun _ => rfl) ?_ d _ h
  intro n1 x1 h K1 hn1
  replace h : ref05_Crest_L1 d  (iter (ref05_Crest_L1 d ) n1) x1 = some r := h
  generalize iter (ref05_Crest_L1 d ) n1 = self1 at h hn1
  unfold ref05_Crest_L1 at h
  refine run_block ?_
  refine run_seq ?_
  refine run_reg hm hT hC (ref05_Crest_g3 (ref05_Crest_K d) x1) h ?_
  intro y3 h
  refine cn_then ?_
  refine run_seq ?_
  refine run_reg hm hT hC (ref05_Crest_g4 (ref05_Crest_K d) y3) h ?_
  intro y4 h
  refine cn_then ?_
  refine run_seq ?_
  refine run_seq ?_
  refine run_reg hm hT hC (ref05_Crest_g5 (ref05_Crest_K d) y4) h ?_
  intro y5 h
  refine cn_then ?_
  refine run_block ?_
  refine run_loop (G := iter (ref05_Crest_L2 d self1)) (S := (fun x2 => ⟨[(2, .ptr 0 0), (6, .rs 1), (7, .ptr 2 0), (8, .ptr 3 0), (9, .bool x2.1), (10, .int .i64 x2.2.1)], [.cells [.fz Riii x2.2.2.1], .rows Riii x2.2.2.2.1, .cells [.int .i64 x2.2.2.2.2.1, .int .i64 x2.2.2.2.2.2.1, .int .i64 x2.2.2.2.2.2.2.1], .cells [.int .i64 x2.2.2.2.2.2.2.2.1, .int .i64 x2.2.2.2.2.2.2.2.2]]⟩ : Bool × Int × List Diii × List Diii × Int × Int × Int × Int × Int → St)) (fun _ => rfl) ?_ d _ h
  intro n2 x2 h K2 hn2
  replace h : ref05_Crest_L2 d self1 (iter (ref05_Crest_L2 d self1) n2) x2 = some r := h
  generalize iter (ref05_Crest_L2 d self1) n2 = self2 at h hn2
  unfold ref05_Crest_L2 at h
  refine run_seq ?_
  refine run_seq ?_
  refine run_reg hm hT hC (ref05_Crest_g6 (ref05_Crest_K d) x2) h ?_
  intro y6 h
  refine cn_then ?_
  refine run_cond (v := y6.2.2.1) (by kernel_rfl) h ?_ ?_
  ·
    intro h
    refine run_skip ?_
    refine cn_then ?_
    refine run_join (r := r) (F := ref05_Crest_J3 d self1 self2) (S := (fun z => ⟨[(2, .ptr 0 0), (6, .rs 1), (7, .ptr 2 0), (8, .ptr 3 0), (9, .bool z.1), (10, .int .i64 z.2.1)], [.cells [.fz Riii z.2.2.1], .rows Riii z.2.2.2.1, .cells [.int .i64 z.2.2.2.2.1, .int .i64 z.2.2.2.2.2.1, .int .i64 z.2.2.2.2.2.2.1], .cells [.int .i64 z.2.2.2.2.2.2.2.1, .int .i64 z.2.2.2.2.2.2.2.2]]⟩ : Bool × Int × List Diii × List Diii × Int × Int × Int × Int × Int → St)) ?_ ?_
    ·
      intro z h
      unfold ref05_Crest_J3 at h
      refine run_reg hm hT hC (ref05_Crest_g7 (ref05_Crest_K d) z) h ?_
      intro y7 h
      exact hn2 _ h
    intro hj3
    refine run_block ?_
    refine run_seq ?_
    refine run_seq ?_
    refine run_reg hm hT hC (ref05_Crest_g8 (ref05_Crest_K d) y6) h ?_
    intro y8 h
    refine cn_then ?_
    refine run_cond (v := y8.2.2.1) (by kernel_rfl) h ?_ ?_
    ·
      intro h
      refine run_exit ?_
      refine cn_then_exit ?_
      refine cn_blk_eq ?_
      refine cn_num (s := ⟨[(2, .ptr 0 0), (6, .rs 1), (7, .ptr 2 0), (8, .ptr 3 0), (9, .bool y8.1), (10, .int .i64 y8.2.1)], [.cells [.fz Riii y8.2.2.2.1], .rows Riii y8.2.2.2.2.1, .cells [.int .i64 y8.2.2.2.2.2.1, .int .i64 y8.2.2.2.2.2.2.1, .int .i64 y8.2.2.2.2.2.2.2.1], .cells [.int .i64 y8.2.2.2.2.2.2.2.2.1, .int .i64 y8.2.2.2.2.2.2.2.2.2]]⟩) [50] (by kernel_rfl) ?_
      exact hj3 _ h
    ·
      intro h
      refine run_skip ?_
      refine cn_then ?_
      refine run_seq ?_
      refine run_reg hm hT hC (ref05_Crest_g9 (ref05_Crest_K d) y8) h ?_
      intro y9 h
      refine cn_then ?_
      refine run_seq ?_
      refine run_reg hm hT hC (ref05_Crest_g10 (ref05_Crest_K d) y9) h ?_
      intro y10 h
      refine cn_then ?_
      refine run_cond (v := y10.2.2.1) (by kernel_rfl) h ?_ ?_
      ·
        intro h
        refine run_reg hm hT hC (ref05_Crest_g11 (ref05_Crest_K d) y10) h ?_
        intro y11 h
        refine cn_blk ?_
        exact hj3 _ h
      ·
        intro h
        refine run_skip ?_
        refine cn_blk ?_
        refine cn_num (s := ⟨[(2, .ptr 0 0), (6, .rs 1), (7, .ptr 2 0), (8, .ptr 3 0), (9, .bool y10.1), (10, .int .i64 y10.2.1)], [.cells [.fz Riii y10.2.2.2.1], .rows Riii y10.2.2.2.2.1, .cells [.int .i64 y10.2.2.2.2.2.1, .int .i64 y10.2.2.2.2.2.2.1, .int .i64 y10.2.2.2.2.2.2.2.1], .cells [.int .i64 y10.2.2.2.2.2.2.2.2.1, .int .i64 y10.2.2.2.2.2.2.2.2.2.1]]⟩) [11, 65] (by kernel_rfl) ?_
        exact hj3 _ h
  ·
    intro h
    refine run_exit ?_
    refine cn_then_exit ?_
    refine cn_then_exit ?_
    refine cn_blk_eq ?_
    refine cn_then ?_
    refine run_seq ?_
    refine run_seq ?_
    refine run_reg hm hT hC (ref05_Crest_g12 (ref05_Crest_K d) y6) h ?_
    intro y12 h
    refine cn_then ?_
    refine run_cond (v := y12.1) (by kernel_rfl) h ?_ ?_
    ·
      intro h
      refine run_seq ?_
      refine run_reg hm hT hC (ref05_Crest_g13 (ref05_Crest_K d) y12) h ?_
      intro y13 h
      refine cn_then ?_
      refine run_ret ?_
      refine cn_then_ret ?_
      refine cn_blk_ret ?_
      refine cn_then_ret ?_
      refine cn_blk_ret ?_
      cases h
      exact (hend _ (by kernel_rfl)).2
    ·
      intro h
      refine run_skip ?_
      refine cn_then ?_
      refine run_reg hm hT hC (ref05_Crest_g14 (ref05_Crest_K d) y12) h ?_
      intro y14 h
      refine cn_blk ?_
      exact hn1 _ h
abbrev ref01_Both_ps : List Pk := [.row Rii true, .row Rii true]
abbrev ref01_Both_X : Type := Dii × Dii × Unit
abbrev ref01_Both_R : Type := Int
def ref01_Both_enc (r : ref01_Both_R) : LV × List Ob := (.int .i64 r, [])
def ref01_Both_sp (F : ref01_Both_X → Option ref01_Both_R) : Go.Tx.Spec := ⟨63, ref01_Both_ps, ref01_Both_R, F, ref01_Both_enc⟩
abbrev ref01_Both_C : Type := (ref01_Check_X → Option ref01_Check_R) × Unit
def ref01_Both_K (d : Nat) : ref01_Both_C := (F_ref01_Check d, ())
def ref01_Both_tab (C : ref01_Both_C) : List Go.Tx.Spec := [ref01_Check_sp C.1]
abbrev ref01_Both_Y0i : Type := Int × Int × Int × Int
def ref01_Both_S0i (v : ref01_Both_Y0i) : St := ⟨[(0, .agg [.int .i64 v.1, .int .i64 v.2.1]), (1, .agg [.int .i64 v.2.2.1, .int .i64 v.2.2.2])], []⟩
abbrev ref01_Both_Y0 : Type := Int × Int × Int × Int
def ref01_Both_S0 (v : ref01_Both_Y0) : St := ⟨[(2, .ptr 0 0), (3, .ptr 1 0)], [.cells [.int .i64 v.1, .int .i64 v.2.1], .cells [.int .i64 v.2.2.1, .int .i64 v.2.2.2]]⟩
def ref01_Both_r0 (C : ref01_Both_C) (v : ref01_Both_Y0i) : Dt ref01_Both_Y0 := (Dt.ret (v.1, v.2.1, v.2.2.1, v.2.2.2))
theorem ref01_Both_g0 (C : ref01_Both_C) (v : ref01_Both_Y0i) : treg tysT (orc (ref01_Both_tab C)) 12 (regO (bodyOf f63) 0) false [(2, .any), (3, .any)] (ref01_Both_S0i v) some = (ref01_Both_r0 C v).eval fun y => some (ref01_Both_S0 y) := by kernel_rfl
abbrev ref01_Both_Y1 : Type := Bool × Int × Int × Int × Int
def ref01_Both_S1 (v : ref01_Both_Y1) : St := ⟨[(2, .ptr 0 0), (3, .ptr 1 0), (7, .bool v.1)], [.cells [.int .i64 v.2.1, .int .i64 v.2.2.1], .cells [.int .i64 v.2.2.2.1, .int .i64 v.2.2.2.2]]⟩
def ref01_Both_r1 (C : ref01_Both_C) (v : ref01_Both_Y0) : Dt ref01_Both_Y1 := (Dt.bnd (C.1 ((v.1, v.2.1, ()), ())) fun r1 => (Dt.ret ((r1 != (0:Int)), v.1, v.2.1, v.2.2.1, v.2.2.2)))
theorem ref01_Both_g1 (C : ref01_Both_C) (v : ref01_Both_Y0) : treg tysT (orc (ref01_Both_tab C)) 12 (regO (bodyOf f63) 1) false [(2, .any), (3, .any), (7, .any)] (ref01_Both_S0 v) some = (ref01_Both_r1 C v).eval fun y => some (ref01_Both_S1 y) := by kernel_rfl
abbrev ref01_Both_Y2 : Type := Int
def ref01_Both_S2 (v : ref01_Both_Y2) : St := ⟨[(4, .int .i64 v)], []⟩
def ref01_Both_r2 (C : ref01_Both_C) (v : ref01_Both_Y1) : Dt ref01_Both_Y2 := (Dt.bnd (C.1 ((v.2.1, v.2.2.1, ()), ())) fun r1 => (Dt.ret r1))
theorem ref01_Both_g2 (C : ref01_Both_C) (v : ref01_Both_Y1) : treg tysT (orc (ref01_Both_tab C)) 12 (regO (bodyOf f63) 2) false [(4, .any)] (ref01_Both_S1 v) some = (ref01_Both_r2 C v).eval fun y => some (ref01_Both_S2 y) := by kernel_rfl
def ref01_Both_r3 (C : ref01_Both_C) (v : ref01_Both_Y1) : Dt ref01_Both_Y2 := (Dt.bnd (C.1 ((v.2.2.2.1, v.2.2.2.2, ()), ())) fun r1 => (Dt.ret r1))
theorem ref01_Both_g3 (C : ref01_Both_C) (v : ref01_Both_Y1) : treg tysT (orc (ref01_Both_tab C)) 12 (regO (bodyOf f63) 3) false [(4, .any)] (ref01_Both_S1 v) some = (ref01_Both_r3 C v).eval fun y => some (ref01_Both_S2 y) := by kernel_rfl
def F_ref01_Both (d : Nat) (x : ref01_Both_X) : Option ref01_Both_R :=
  (ref01_Both_r0 (ref01_Both_K d) (x.1.1, x.1.2.1, x.2.1.1, x.2.1.2.1)).eval fun y0 =>
  (ref01_Both_r1 (ref01_Both_K d) y0).eval fun y1 =>
  bif y1.1 then ((ref01_Both_r2 (ref01_Both_K d) y1).eval fun y2 =>
  some y2) else ((ref01_Both_r3 (ref01_Both_K d) y1).eval fun y3 =>
  some y3)
theorem ref01_Both_cok (d : Nat) : COK prog (ref01_Both_sp (F_ref01_Both d)) := by
  have hm : prog.follows .mixedOrders = true := mixed
  have hT := tys
  have hC0 : OrcOK prog (orc (ref01_Both_tab (ref01_Both_K d))) := orc_ok (by
    intro S hS
    simp only [ref01_Both_tab, List.mem_cons, List.not_mem_nil, or_false] at hS
    subst hS; exact ref01_Check_cok d)
  have hC : OrcOK prog (orc (ref01_Both_tab (ref01_Both_K d))) := hC0
  refine cok_of (c := bodyOf f63) (fn := f63) hT (by kernel_rfl) (by kernel_rfl) (by decide) fun x r h w0 φ0 Q hend => ?_
  replace h : F_ref01_Both d x = some r := h
  unfold F_ref01_Both at h
  show Run prog w0 φ0 12 (bodyOf f63) ⟨[(0, .agg [.int .i64 x.1.1, .int .i64 x.1.2.1]), (1, .agg [.int .i64 x.2.1.1, .int .i64 x.2.1.2.1])], []⟩ Q
  refine run_seq ?_
  refine run_reg hm hT hC (ref01_Both_g0 (ref01_Both_K d) (x.1.1, x.1.2.1, x.2.1.1, x.2.1.2.1)) h ?_
  intro y0 h
  refine cn_then ?_
  refine run_seq ?_
  refine run_seq ?_
  refine run_reg hm hT hC (ref01_Both_g1 (ref01_Both_K d) y0) h ?_
  intro y1 h
  refine cn_then ?_
  refine run_cond (v := y1.1) (by kernel_rfl) h ?_ ?_
  ·
    intro h
    refine run_seq ?_
    refine run_reg hm hT hC (ref01_Both_g2 (ref01_Both_K d) y1) h ?_
    intro y2 h
    refine cn_then ?_
    refine run_ret ?_
    refine cn_then_ret ?_
    cases h
    exact (hend _ (by kernel_rfl)).2
  ·
    intro h
    refine run_skip ?_
    refine cn_then ?_
    refine run_seq ?_
    refine run_reg hm hT hC (ref01_Both_g3 (ref01_Both_K d) y1) h ?_
    intro y3 h
    refine cn_then ?_
    refine run_ret ?_
    cases h
    exact (hend _ (by kernel_rfl)).2
abbrev ref24_Asked_ps : List Pk := [.row RLiiiE true, .row Rii true, .row Rii true]
abbrev ref24_Asked_X : Type := DLiiiE × Dii × Dii × Unit
abbrev ref24_Asked_R : Type := Int
def ref24_Asked_enc (r : ref24_Asked_R) : LV × List Ob := (.int .i64 r, [])
def ref24_Asked_sp (F : ref24_Asked_X → Option ref24_Asked_R) : Go.Tx.Spec := ⟨61, ref24_Asked_ps, ref24_Asked_R, F, ref24_Asked_enc⟩
abbrev ref24_Asked_C : Type := (ref01_Compare_X → Option ref01_Compare_R) × (ref01_Both_X → Option ref01_Both_R) × (ref03_Check_X → Option ref03_Check_R) × Unit
def ref24_Asked_K (d : Nat) : ref24_Asked_C := (F_ref01_Compare d, F_ref01_Both d, F_ref03_Check d, ())
def ref24_Asked_tab (C : ref24_Asked_C) : List Go.Tx.Spec := [ref01_Compare_sp C.1, ref01_Both_sp C.2.1, ref03_Check_sp C.2.2.1]
abbrev ref24_Asked_Y0i : Type := List Diii × Int × Int × Int × Int
def ref24_Asked_S0i (v : ref24_Asked_Y0i) : St := ⟨[(0, .agg [.fz Riii v.1]), (1, .agg [.int .i64 v.2.1, .int .i64 v.2.2.1]), (2, .agg [.int .i64 v.2.2.2.1, .int .i64 v.2.2.2.2])], []⟩
abbrev ref24_Asked_Y0 : Type := List Diii × Int × Int × Int × Int
def ref24_Asked_S0 (v : ref24_Asked_Y0) : St := ⟨[(3, .ptr 0 0), (4, .ptr 1 0), (5, .ptr 2 0)], [.cells [.fz Riii v.1], .cells [.int .i64 v.2.1, .int .i64 v.2.2.1], .cells [.int .i64 v.2.2.2.1, .int .i64 v.2.2.2.2]]⟩
def ref24_Asked_r0 (C : ref24_Asked_C) (v : ref24_Asked_Y0i) : Dt ref24_Asked_Y0 := (Dt.ret (v.1, v.2.1, v.2.2.1, v.2.2.2.1, v.2.2.2.2))
theorem ref24_Asked_g0 (C : ref24_Asked_C) (v : ref24_Asked_Y0i) : treg tysT (orc (ref24_Asked_tab C)) 20 (regO (bodyOf f61) 0) false [(3, (.box [.val Riii])), (4, .any), (5, .any)] (ref24_Asked_S0i v) some = (ref24_Asked_r0 C v).eval fun y => some (ref24_Asked_S0 y) := by kernel_rfl
abbrev ref24_Asked_Y1 : Type := Bool × List Diii × Int × Int × Int × Int
def ref24_Asked_S1 (v : ref24_Asked_Y1) : St := ⟨[(3, .ptr 0 0), (4, .ptr 1 0), (5, .ptr 2 0), (9, .bool v.1)], [.cells [.fz Riii v.2.1], .cells [.int .i64 v.2.2.1, .int .i64 v.2.2.2.1], .cells [.int .i64 v.2.2.2.2.1, .int .i64 v.2.2.2.2.2]]⟩
def ref24_Asked_r1 (C : ref24_Asked_C) (v : ref24_Asked_Y0) : Dt ref24_Asked_Y1 := (Dt.bnd (C.2.2.1 ((v.1, ()), ())) fun r1 => (Dt.ret ((r1 != (0:Int)), v.1, v.2.1, v.2.2.1, v.2.2.2.1, v.2.2.2.2)))
theorem ref24_Asked_g1 (C : ref24_Asked_C) (v : ref24_Asked_Y0) : treg tysT (orc (ref24_Asked_tab C)) 20 (regO (bodyOf f61) 1) false [(3, (.box [.val Riii])), (4, .any), (5, .any), (9, .any)] (ref24_Asked_S0 v) some = (ref24_Asked_r1 C v).eval fun y => some (ref24_Asked_S1 y) := by kernel_rfl
abbrev ref24_Asked_Y2 : Type := Int
def ref24_Asked_S2 (v : ref24_Asked_Y2) : St := ⟨[(6, .int .i64 v)], []⟩
def ref24_Asked_r2 (C : ref24_Asked_C) (v : ref24_Asked_Y1) : Dt ref24_Asked_Y2 := (Dt.bnd (C.2.2.1 ((v.2.1, ()), ())) fun r1 => (Dt.ret r1))
theorem ref24_Asked_g2 (C : ref24_Asked_C) (v : ref24_Asked_Y1) : treg tysT (orc (ref24_Asked_tab C)) 20 (regO (bodyOf f61) 2) false [(6, .any)] (ref24_Asked_S1 v) some = (ref24_Asked_r2 C v).eval fun y => some (ref24_Asked_S2 y) := by kernel_rfl
abbrev ref24_Asked_Y3 : Type := Bool × Int × Int × Int × Int
def ref24_Asked_S3 (v : ref24_Asked_Y3) : St := ⟨[(4, .ptr 0 0), (5, .ptr 1 0), (15, .bool v.1)], [.cells [.int .i64 v.2.1, .int .i64 v.2.2.1], .cells [.int .i64 v.2.2.2.1, .int .i64 v.2.2.2.2]]⟩
def ref24_Asked_r3 (C : ref24_Asked_C) (v : ref24_Asked_Y1) : Dt ref24_Asked_Y3 := (Dt.bnd (C.2.1 ((v.2.2.1, v.2.2.2.1, ()), (v.2.2.2.2.1, v.2.2.2.2.2, ()), ())) fun r1 => (Dt.ret ((r1 != (0:Int)), v.2.2.1, v.2.2.2.1, v.2.2.2.2.1, v.2.2.2.2.2)))
theorem ref24_Asked_g3 (C : ref24_Asked_C) (v : ref24_Asked_Y1) : treg tysT (orc (ref24_Asked_tab C)) 20 (regO (bodyOf f61) 3) false [(4, .any), (5, .any), (15, .any)] (ref24_Asked_S1 v) some = (ref24_Asked_r3 C v).eval fun y => some (ref24_Asked_S3 y) := by kernel_rfl
def ref24_Asked_r4 (C : ref24_Asked_C) (v : ref24_Asked_Y3) : Dt ref24_Asked_Y2 := (Dt.ret (8:Int))
theorem ref24_Asked_g4 (C : ref24_Asked_C) (v : ref24_Asked_Y3) : treg tysT (orc (ref24_Asked_tab C)) 20 (regO (bodyOf f61) 4) false [(6, .any)] (ref24_Asked_S3 v) some = (ref24_Asked_r4 C v).eval fun y => some (ref24_Asked_S2 y) := by kernel_rfl
abbrev ref24_Asked_Y5 : Type := Bool
def ref24_Asked_S5 (v : ref24_Asked_Y5) : St := ⟨[(19, .bool v)], []⟩
def ref24_Asked_r5 (C : ref24_Asked_C) (v : ref24_Asked_Y3) : Dt ref24_Asked_Y5 := (Dt.bnd (C.1 ((v.2.1, v.2.2.1, ()), (v.2.2.2.1, v.2.2.2.2, ()), ())) fun r1 => (Dt.ret (decide (r1 > (0:Int)))))
theorem ref24_Asked_g5 (C : ref24_Asked_C) (v : ref24_Asked_Y3) : treg tysT (orc (ref24_Asked_tab C)) 20 (regO (bodyOf f61) 5) false [(19, .any)] (ref24_Asked_S3 v) some = (ref24_Asked_r5 C v).eval fun y => some (ref24_Asked_S5 y) := by kernel_rfl
def ref24_Asked_r6 (C : ref24_Asked_C) (v : ref24_Asked_Y5) : Dt ref24_Asked_Y2 := (Dt.ret (2:Int))
theorem ref24_Asked_g6 (C : ref24_Asked_C) (v : ref24_Asked_Y5) : treg tysT (orc (ref24_Asked_tab C)) 20 (regO (bodyOf f61) 6) false [(6, .any)] (ref24_Asked_S5 v) some = (ref24_Asked_r6 C v).eval fun y => some (ref24_Asked_S2 y) := by kernel_rfl
def ref24_Asked_r7 (C : ref24_Asked_C) (v : ref24_Asked_Y5) : Dt ref24_Asked_Y2 := (Dt.ret (0:Int))
theorem ref24_Asked_g7 (C : ref24_Asked_C) (v : ref24_Asked_Y5) : treg tysT (orc (ref24_Asked_tab C)) 20 (regO (bodyOf f61) 7) false [(6, .any)] (ref24_Asked_S5 v) some = (ref24_Asked_r7 C v).eval fun y => some (ref24_Asked_S2 y) := by kernel_rfl
def F_ref24_Asked (d : Nat) (x : ref24_Asked_X) : Option ref24_Asked_R :=
  (ref24_Asked_r0 (ref24_Asked_K d) (x.1.1, x.2.1.1, x.2.1.2.1, x.2.2.1.1, x.2.2.1.2.1)).eval fun y0 =>
  (ref24_Asked_r1 (ref24_Asked_K d) y0).eval fun y1 =>
  bif y1.1 then ((ref24_Asked_r2 (ref24_Asked_K d) y1).eval fun y2 =>
  some y2) else ((ref24_Asked_r3 (ref24_Asked_K d) y1).eval fun y3 =>
  bif y3.1 then ((ref24_Asked_r4 (ref24_Asked_K d) y3).eval fun y4 =>
  some y4) else ((ref24_Asked_r5 (ref24_Asked_K d) y3).eval fun y5 =>
  bif y5 then ((ref24_Asked_r6 (ref24_Asked_K d) y5).eval fun y6 =>
  some y6) else ((ref24_Asked_r7 (ref24_Asked_K d) y5).eval fun y7 =>
  some y7)))
theorem ref24_Asked_cok (d : Nat) : COK prog (ref24_Asked_sp (F_ref24_Asked d)) := by
  have hm : prog.follows .mixedOrders = true := mixed
  have hT := tys
  have hC0 : OrcOK prog (orc (ref24_Asked_tab (ref24_Asked_K d))) := orc_ok (by
    intro S hS
    simp only [ref24_Asked_tab, List.mem_cons, List.not_mem_nil, or_false] at hS
    rcases hS with rfl | rfl | rfl
    · exact ref01_Compare_cok d
    · exact ref01_Both_cok d
    · exact ref03_Check_cok d)
  have hC : OrcOK prog (orc (ref24_Asked_tab (ref24_Asked_K d))) := hC0
  refine cok_of (c := bodyOf f61) (fn := f61) hT (by kernel_rfl) (by kernel_rfl) (by decide) fun x r h w0 φ0 Q hend => ?_
  replace h : F_ref24_Asked d x = some r := h
  unfold F_ref24_Asked at h
  show Run prog w0 φ0 20 (bodyOf f61) ⟨[(0, .agg [.fz Riii x.1.1]), (1, .agg [.int .i64 x.2.1.1, .int .i64 x.2.1.2.1]), (2, .agg [.int .i64 x.2.2.1.1, .int .i64 x.2.2.1.2.1])], []⟩ Q
  refine run_seq ?_
  refine run_reg hm hT hC (ref24_Asked_g0 (ref24_Asked_K d) (x.1.1, x.2.1.1, x.2.1.2.1, x.2.2.1.1, x.2.2.1.2.1)) h ?_
  intro y0 h
  refine cn_then ?_
  refine run_seq ?_
  refine run_seq ?_
  refine run_reg hm hT hC (ref24_Asked_g1 (ref24_Asked_K d) y0) h ?_
  intro y1 h
  refine cn_then ?_
  refine run_cond (v := y1.1) (by kernel_rfl) h ?_ ?_
  ·
    intro h
    refine run_seq ?_
    refine run_reg hm hT hC (ref24_Asked_g2 (ref24_Asked_K d) y1) h ?_
    intro y2 h
    refine cn_then ?_
    refine run_ret ?_
    refine cn_then_ret ?_
    cases h
    exact (hend _ (by kernel_rfl)).2
  ·
    intro h
    refine run_skip ?_
    refine cn_then ?_
    refine run_seq ?_
    refine run_seq ?_
    refine run_reg hm hT hC (ref24_Asked_g3 (ref24_Asked_K d) y1) h ?_
    intro y3 h
    refine cn_then ?_
    refine run_cond (v := y3.1) (by kernel_rfl) h ?_ ?_
    ·
      intro h
      refine run_seq ?_
      refine run_reg hm hT hC (ref24_Asked_g4 (ref24_Asked_K d) y3) h ?_
      intro y4 h
      refine cn_then ?_
      refine run_ret ?_
      refine cn_then_ret ?_
      cases h
      exact (hend _ (by kernel_rfl)).2
    ·
      intro h
      refine run_skip ?_
      refine cn_then ?_
      refine run_seq ?_
      refine run_seq ?_
      refine run_reg hm hT hC (ref24_Asked_g5 (ref24_Asked_K d) y3) h ?_
      intro y5 h
      refine cn_then ?_
      refine run_cond (v := y5) (by kernel_rfl) h ?_ ?_
      ·
        intro h
        refine run_seq ?_
        refine run_reg hm hT hC (ref24_Asked_g6 (ref24_Asked_K d) y5) h ?_
        intro y6 h
        refine cn_then ?_
        refine run_ret ?_
        refine cn_then_ret ?_
        cases h
        exact (hend _ (by kernel_rfl)).2
      ·
        intro h
        refine run_skip ?_
        refine cn_then ?_
        refine run_seq ?_
        refine run_reg hm hT hC (ref24_Asked_g7 (ref24_Asked_K d) y5) h ?_
        intro y7 h
        refine cn_then ?_
        refine run_ret ?_
        cases h
        exact (hend _ (by kernel_rfl)).2
abbrev ref24_Between_ps : List Pk := [.row RLiiiE true, .row Rii true, .row Rii true]
abbrev ref24_Between_X : Type := DLiiiE × Dii × Dii × Unit
abbrev ref24_Between_R : Type := List Diiiii
def ref24_Between_enc (r : ref24_Between_R) : LV × List Ob := (.rs 0, [.rows Riiiii r])
def ref24_Between_sp (F : ref24_Between_X → Option ref24_Between_R) : Go.Tx.Spec := ⟨62, ref24_Between_ps, ref24_Between_R, F, ref24_Between_enc⟩
abbrev ref24_Between_C : Type := (ref01_Compare_X → Option ref01_Compare_R) × (ref05_Crest_X → Option ref05_Crest_R) × Unit
def ref24_Between_K (d : Nat) : ref24_Between_C := (F_ref01_Compare d, F_ref05_Crest d, ())
def ref24_Between_tab (C : ref24_Between_C) : List Go.Tx.Spec := [ref01_Compare_sp C.1, ref05_Crest_sp C.2.1]
abbrev ref24_Between_Y0i : Type := List Diii × Int × Int × Int × Int
def ref24_Between_S0i (v : ref24_Between_Y0i) : St := ⟨[(0, .agg [.fz Riii v.1]), (1, .agg [.int .i64 v.2.1, .int .i64 v.2.2.1]), (2, .agg [.int .i64 v.2.2.2.1, .int .i64 v.2.2.2.2])], []⟩
abbrev ref24_Between_Y0 : Type := List Diii × Int × Int × Int × Int
def ref24_Between_S0 (v : ref24_Between_Y0) : St := ⟨[(3, .ptr 0 0), (4, .ptr 1 0), (5, .ptr 2 0)], [.cells [.fz Riii v.1], .cells [.int .i64 v.2.1, .int .i64 v.2.2.1], .cells [.int .i64 v.2.2.2.1, .int .i64 v.2.2.2.2]]⟩
def ref24_Between_r0 (C : ref24_Between_C) (v : ref24_Between_Y0i) : Dt ref24_Between_Y0 := (Dt.ret (v.1, v.2.1, v.2.2.1, v.2.2.2.1, v.2.2.2.2))
theorem ref24_Between_g0 (C : ref24_Between_C) (v : ref24_Between_Y0i) : treg tysT (orc (ref24_Between_tab C)) 72 (regO (bodyOf f62) 0) false [(3, (.box [.val Riii])), (4, .any), (5, .any)] (ref24_Between_S0i v) some = (ref24_Between_r0 C v).eval fun y => some (ref24_Between_S0 y) := by kernel_rfl
abbrev ref24_Between_Y1 : Type := Int × Int × List Diii
def ref24_Between_S1 (v : ref24_Between_Y1) : St := ⟨[(5, .ptr 0 0), (7, .rs 1)], [.cells [.int .i64 v.1, .int .i64 v.2.1], .rows Riii v.2.2]⟩
def ref24_Between_r1 (C : ref24_Between_C) (v : ref24_Between_Y0) : Dt ref24_Between_Y1 := (Dt.bnd (C.2.1 ((v.1, ()), (v.2.1, v.2.2.1, ()), ())) fun r1 => (Dt.ret (v.2.2.2.1, v.2.2.2.2, r1)))
theorem ref24_Between_g1 (C : ref24_Between_C) (v : ref24_Between_Y0) : treg tysT (orc (ref24_Between_tab C)) 72 (regO (bodyOf f62) 1) false [(5, .any), (7, (.own Riii))] (ref24_Between_S0 v) some = (ref24_Between_r1 C v).eval fun y => some (ref24_Between_S1 y) := by kernel_rfl
abbrev ref24_Between_Y2 : Type := Int × Int × List Diii × List Diiiii
def ref24_Between_S2 (v : ref24_Between_Y2) : St := ⟨[(5, .ptr 0 0), (7, .rs 1), (8, .rs 2)], [.cells [.int .i64 v.1, .int .i64 v.2.1], .rows Riii v.2.2.1, .rows Riiiii v.2.2.2]⟩
def ref24_Between_r2 (C : ref24_Between_C) (v : ref24_Between_Y1) : Dt ref24_Between_Y2 := (Dt.ret (v.1, v.2.1, v.2.2, ([] : List Diiiii)))
theorem ref24_Between_g2 (C : ref24_Between_C) (v : ref24_Between_Y1) : treg tysT (orc (ref24_Between_tab C)) 72 (regO (bodyOf f62) 2) false [(5, .any), (7, (.own Riii)), (8, (.own Riiiii))] (ref24_Between_S1 v) some = (ref24_Between_r2 C v).eval fun y => some (ref24_Between_S2 y) := by kernel_rfl
abbrev ref24_Between_Y3 : Type := Int × Int × Int × List Diii × List Diiiii
def ref24_Between_S3 (v : ref24_Between_Y3) : St := ⟨[(5, .ptr 0 0), (7, .rs 1), (8, .rs 2), (9, .int .i64 v.1)], [.cells [.int .i64 v.2.1, .int .i64 v.2.2.1], .rows Riii v.2.2.2.1, .rows Riiiii v.2.2.2.2]⟩
def ref24_Between_r3 (C : ref24_Between_C) (v : ref24_Between_Y2) : Dt ref24_Between_Y3 := (Dt.ret ((0:Int), v.1, v.2.1, v.2.2.1, v.2.2.2))
theorem ref24_Between_g3 (C : ref24_Between_C) (v : ref24_Between_Y2) : treg tysT (orc (ref24_Between_tab C)) 72 (regO (bodyOf f62) 3) false [(5, .any), (7, (.own Riii)), (8, (.own Riiiii)), (9, .any)] (ref24_Between_S2 v) some = (ref24_Between_r3 C v).eval fun y => some (ref24_Between_S3 y) := by kernel_rfl
abbrev ref24_Between_Y4 : Type := Int × Bool × Int × Int × List Diii × List Diiiii
def ref24_Between_S4 (v : ref24_Between_Y4) : St := ⟨[(5, .ptr 0 0), (7, .rs 1), (8, .rs 2), (9, .int .i64 v.1), (17, .bool v.2.1)], [.cells [.int .i64 v.2.2.1, .int .i64 v.2.2.2.1], .rows Riii v.2.2.2.2.1, .rows Riiiii v.2.2.2.2.2]⟩
def ref24_Between_r4 (C : ref24_Between_C) (v : ref24_Between_Y3) : Dt ref24_Between_Y4 := (Dt.ret (v.1, (decide (v.1 < (List.length v.2.2.2.1 : Int))), v.2.1, v.2.2.1, v.2.2.2.1, v.2.2.2.2))
theorem ref24_Between_g4 (C : ref24_Between_C) (v : ref24_Between_Y3) : treg tysT (orc (ref24_Between_tab C)) 72 (regO (bodyOf f62) 4) false [(5, .any), (7, (.own Riii)), (8, (.own Riiiii)), (9, .any), (17, .any)] (ref24_Between_S3 v) some = (ref24_Between_r4 C v).eval fun y => some (ref24_Between_S4 y) := by kernel_rfl
abbrev ref24_Between_Y6 : Type := Int × Bool × Int × Int × List Diii × List Diiiii
def ref24_Between_S6 (v : ref24_Between_Y6) : St := ⟨[(5, .ptr 0 0), (7, .rs 1), (8, .rs 2), (9, .int .i64 v.1), (31, .bool v.2.1)], [.cells [.int .i64 v.2.2.1, .int .i64 v.2.2.2.1], .rows Riii v.2.2.2.2.1, .rows Riiiii v.2.2.2.2.2]⟩
def ref24_Between_r6 (C : ref24_Between_C) (v : ref24_Between_Y4) : Dt ref24_Between_Y6 := (Dt.ite (decide (v.1 > (0:Int))) (Dt.ite (inB v.1 (List.length v.2.2.2.2.1)) (Dt.bnd (C.1 (((elt ziii v.2.2.2.2.1 (v.1).toNat).1, (elt ziii v.2.2.2.2.1 (v.1).toNat).2.1, ()), (v.2.2.1, v.2.2.2.1, ()), ())) fun r1 => (Dt.ret (v.1, (decide (r1 ≥ (0:Int))), v.2.2.1, v.2.2.2.1, v.2.2.2.2.1, v.2.2.2.2.2))) Dt.fail) (Dt.ret (v.1, false, v.2.2.1, v.2.2.2.1, v.2.2.2.2.1, v.2.2.2.2.2)))
theorem ref24_Between_g6 (C : ref24_Between_C) (v : ref24_Between_Y4) : treg tysT (orc (ref24_Between_tab C)) 72 (regO (bodyOf f62) 6) true [(5, .any), (7, (.own Riii)), (8, (.own Riiiii)), (9, .any), (31, .any)] (ref24_Between_S4 v) some = (ref24_Between_r6 C v).eval fun y => some (ref24_Between_S6 y) := by kernel_rfl
abbrev ref24_Between_Y7 : Type := List Diiiii
def ref24_Between_S7 (v : ref24_Between_Y7) : St := ⟨[(6, .rs 0)], [.rows Riiiii v]⟩
def ref24_Between_r7 (C : ref24_Between_C) (v : ref24_Between_Y6) : Dt ref24_Between_Y7 := (Dt.ret v.2.2.2.2.2)
theorem ref24_Between_g7 (C : ref24_Between_C) (v : ref24_Between_Y6) : treg tysT (orc (ref24_Between_tab C)) 72 (regO (bodyOf f62) 7) false [(6, (.own Riiiii))] (ref24_Between_S6 v) some = (ref24_Between_r7 C v).eval fun y => some (ref24_Between_S7 y) := by kernel_rfl
abbrev ref24_Between_Y8 : Type := Int × Int × Int × List Diii × List Diiiii × Int × Int
def ref24_Between_S8 (v : ref24_Between_Y8) : St := ⟨[(5, .ptr 0 0), (7, .rs 1), (8, .rs 2), (9, .int .i64 v.1), (10, .ptr 3 0)], [.cells [.int .i64 v.2.1, .int .i64 v.2.2.1], .rows Riii v.2.2.2.1, .rows Riiiii v.2.2.2.2.1, .cells [.int .i64 v.2.2.2.2.2.1, .int .i64 v.2.2.2.2.2.2]]⟩
def ref24_Between_r8 (C : ref24_Between_C) (v : ref24_Between_Y6) : Dt ref24_Between_Y8 := (Dt.ret (v.1, v.2.2.1, v.2.2.2.1, v.2.2.2.2.1, v.2.2.2.2.2, v.2.2.1, v.2.2.2.1))
theorem ref24_Between_g8 (C : ref24_Between_C) (v : ref24_Between_Y6) : treg tysT (orc (ref24_Between_tab C)) 72 (regO (bodyOf f62) 8) false [(5, .any), (7, (.own Riii)), (8, (.own Riiiii)), (9, .any), (10, .any)] (ref24_Between_S6 v) some = (ref24_Between_r8 C v).eval fun y => some (ref24_Between_S8 y) := by kernel_rfl
abbrev ref24_Between_Y9 : Type := Int × Bool × Int × Int × List Diii × List Diiiii × Int × Int
def ref24_Between_S9 (v : ref24_Between_Y9) : St := ⟨[(5, .ptr 0 0), (7, .rs 1), (8, .rs 2), (9, .int .i64 v.1), (10, .ptr 3 0), (49, .bool v.2.1)], [.cells [.int .i64 v.2.2.1, .int .i64 v.2.2.2.1], .rows Riii v.2.2.2.2.1, .rows Riiiii v.2.2.2.2.2.1, .cells [.int .i64 v.2.2.2.2.2.2.1, .int .i64 v.2.2.2.2.2.2.2]]⟩
def ref24_Between_r9 (C : ref24_Between_C) (v : ref24_Between_Y8) : Dt ref24_Between_Y9 := (Dt.ite (decide ((IntKind.wrap .i64 (v.1 + (1:Int))) < (List.length v.2.2.2.1 : Int))) (Dt.ite (inB (IntKind.wrap .i64 (v.1 + (1:Int))) (List.length v.2.2.2.1)) (Dt.bnd (C.1 (((elt ziii v.2.2.2.1 ((IntKind.wrap .i64 (v.1 + (1:Int)))).toNat).1, (elt ziii v.2.2.2.1 ((IntKind.wrap .i64 (v.1 + (1:Int)))).toNat).2.1, ()), (v.2.1, v.2.2.1, ()), ())) fun r1 => (Dt.ret (v.1, (decide (r1 < (0:Int))), v.2.1, v.2.2.1, v.2.2.2.1, v.2.2.2.2.1, v.2.2.2.2.2.1, v.2.2.2.2.2.2))) Dt.fail) (Dt.ret (v.1, false, v.2.1, v.2.2.1, v.2.2.2.1, v.2.2.2.2.1, v.2.2.2.2.2.1, v.2.2.2.2.2.2)))
theorem ref24_Between_g9 (C : ref24_Between_C) (v : ref24_Between_Y8) : treg tysT (orc (ref24_Between_tab C)) 72 (regO (bodyOf f62) 9) true [(5, .any), (7, (.own Riii)), (8, (.own Riiiii)), (9, .any), (10, .any), (49, .any)] (ref24_Between_S8 v) some = (ref24_Between_r9 C v).eval fun y => some (ref24_Between_S9 y) := by kernel_rfl
def ref24_Between_r10 (C : ref24_Between_C) (v : ref24_Between_Y9) : Dt ref24_Between_Y8 := (Dt.ite (inB (IntKind.wrap .i64 (v.1 + (1:Int))) (List.length v.2.2.2.2.1)) (Dt.ret (v.1, v.2.2.1, v.2.2.2.1, v.2.2.2.2.1, v.2.2.2.2.2.1, (elt ziii v.2.2.2.2.1 ((IntKind.wrap .i64 (v.1 + (1:Int)))).toNat).1, (elt ziii v.2.2.2.2.1 ((IntKind.wrap .i64 (v.1 + (1:Int)))).toNat).2.1)) Dt.fail)
theorem ref24_Between_g10 (C : ref24_Between_C) (v : ref24_Between_Y9) : treg tysT (orc (ref24_Between_tab C)) 72 (regO (bodyOf f62) 10) false [(5, .any), (7, (.own Riii)), (8, (.own Riiiii)), (9, .any), (10, .any)] (ref24_Between_S9 v) some = (ref24_Between_r10 C v).eval fun y => some (ref24_Between_S8 y) := by kernel_rfl
def ref24_Between_r11 (C : ref24_Between_C) (v : ref24_Between_Y8) : Dt ref24_Between_Y3 := (Dt.ite (inB v.1 (List.length v.2.2.2.1)) (Dt.ite (inB v.1 (List.length v.2.2.2.1)) (Dt.ite (apB (List.length v.2.2.2.2.1) (List.length ([((elt ziii v.2.2.2.1 (v.1).toNat).1, (elt ziii v.2.2.2.1 (v.1).toNat).2.1, v.2.2.2.2.2.1, v.2.2.2.2.2.2, (elt ziii v.2.2.2.1 (v.1).toNat).2.2.1, ())] : List Diiiii))) (Dt.ret (v.1, v.2.1, v.2.2.1, v.2.2.2.1, (v.2.2.2.2.1 ++ ([((elt ziii v.2.2.2.1 (v.1).toNat).1, (elt ziii v.2.2.2.1 (v.1).toNat).2.1, v.2.2.2.2.2.1, v.2.2.2.2.2.2, (elt ziii v.2.2.2.1 (v.1).toNat).2.2.1, ())] : List Diiiii)))) Dt.fail) Dt.fail) Dt.fail)
theorem ref24_Between_g11 (C : ref24_Between_C) (v : ref24_Between_Y8) : treg tysT (orc (ref24_Between_tab C)) 72 (regO (bodyOf f62) 11) true [(5, .any), (7, (.own Riii)), (8, (.own Riiiii)), (9, .any)] (ref24_Between_S8 v) some = (ref24_Between_r11 C v).eval fun y => some (ref24_Between_S3 y) := by kernel_rfl
def ref24_Between_r5 (C : ref24_Between_C) (v : ref24_Between_Y3) : Dt ref24_Between_Y3 := (Dt.ret ((IntKind.wrap .i64 (v.1 + (1:Int))), v.2.1, v.2.2.1, v.2.2.2.1, v.2.2.2.2))
theorem ref24_Between_g5 (C : ref24_Between_C) (v : ref24_Between_Y3) : treg tysT (orc (ref24_Between_tab C)) 72 (regO (bodyOf f62) 5) false [(5, .any), (7, (.own Riii)), (8, (.own Riiiii)), (9, .any)] (ref24_Between_S3 v) some = (ref24_Between_r5 C v).eval fun y => some (ref24_Between_S3 y) := by kernel_rfl
def ref24_Between_J2  (d : Nat) (self1 : (Int × Int × Int × List Diii × List Diiiii) → Option ref24_Between_R) (z : Int × Int × Int × List Diii × List Diiiii × Int × Int) : Option (ref24_Between_R) :=
  (ref24_Between_r11 (ref24_Between_K d) z).eval fun y11 =>
  (ref24_Between_r5 (ref24_Between_K d) y11).eval fun y5 =>
  self1 y5
def ref24_Between_r12 (C : ref24_Between_C) (v : ref24_Between_Y4) : Dt ref24_Between_Y7 := (Dt.ret v.2.2.2.2.2)
theorem ref24_Between_g12 (C : ref24_Between_C) (v : ref24_Between_Y4) : treg tysT (orc (ref24_Between_tab C)) 72 (regO (bodyOf f62) 12) false [(6, (.own Riiiii))] (ref24_Between_S4 v) some = (ref24_Between_r12 C v).eval fun y => some (ref24_Between_S7 y) := by kernel_rfl
def ref24_Between_L1 (d : Nat) (self1 : (Int × Int × Int × List Diii × List Diiiii) → Option ref24_Between_R) (x1 : Int × Int × Int × List Diii × List Diiiii) : Option ref24_Between_R :=
  (ref24_Between_r4 (ref24_Between_K d) x1).eval fun y4 =>
  bif y4.2.1 then ((ref24_Between_r6 (ref24_Between_K d) y4).eval fun y6 =>
  bif y6.2.1 then ((ref24_Between_r7 (ref24_Between_K d) y6).eval fun y7 =>
  some y7) else ((ref24_Between_r8 (ref24_Between_K d) y6).eval fun y8 =>
  (ref24_Between_r9 (ref24_Between_K d) y8).eval fun y9 =>
  bif y9.2.1 then ((ref24_Between_r10 (ref24_Between_K d) y9).eval fun y10 =>
  ref24_Between_J2 d self1 y10) else (ref24_Between_J2 d self1 (y9.1, y9.2.2.1, y9.2.2.2.1, y9.2.2.2.2.1, y9.2.2.2.2.2.1, y9.2.2.2.2.2.2.1, y9.2.2.2.2.2.2.2)))) else ((ref24_Between_r12 (ref24_Between_K d) y4).eval fun y12 =>
  some y12)
def F_ref24_Between (d : Nat) (x : ref24_Between_X) : Option ref24_Between_R :=
  (ref24_Between_r0 (ref24_Between_K d) (x.1.1, x.2.1.1, x.2.1.2.1, x.2.2.1.1, x.2.2.1.2.1)).eval fun y0 =>
  (ref24_Between_r1 (ref24_Between_K d) y0).eval fun y1 =>
  (ref24_Between_r2 (ref24_Between_K d) y1).eval fun y2 =>
  (ref24_Between_r3 (ref24_Between_K d) y2).eval fun y3 =>
  iter (ref24_Between_L1 d ) d y3
theorem ref24_Between_cok (d : Nat) : COK prog (ref24_Between_sp (F_ref24_Between d)) := by
  have hm : prog.follows .mixedOrders = true := mixed
  have hT := tys
  have hC0 : OrcOK prog (orc (ref24_Between_tab (ref24_Between_K d))) := orc_ok (by
    intro S hS
    simp only [ref24_Between_tab, List.mem_cons, List.not_mem_nil, or_false] at hS
    rcases hS with rfl | rfl
    · exact ref01_Compare_cok d
    · exact ref05_Crest_cok d)
  have hC : OrcOK prog (orc (ref24_Between_tab (ref24_Between_K d))) := hC0
  refine cok_of (c := bodyOf f62) (fn := f62) hT (by kernel_rfl) (by kernel_rfl) (by decide) fun x r h w0 φ0 Q hend => ?_
  replace h : F_ref24_Between d x = some r := h
  unfold F_ref24_Between at h
  show Run prog w0 φ0 72 (bodyOf f62) ⟨[(0, .agg [.fz Riii x.1.1]), (1, .agg [.int .i64 x.2.1.1, .int .i64 x.2.1.2.1]), (2, .agg [.int .i64 x.2.2.1.1, .int .i64 x.2.2.1.2.1])], []⟩ Q
  refine run_seq ?_
  refine run_reg hm hT hC (ref24_Between_g0 (ref24_Between_K d) (x.1.1, x.2.1.1, x.2.1.2.1, x.2.2.1.1, x.2.2.1.2.1)) h ?_
  intro y0 h
  refine cn_then ?_
  refine run_seq ?_
  refine run_reg hm hT hC (ref24_Between_g1 (ref24_Between_K d) y0) h ?_
  intro y1 h
  refine cn_then ?_
  refine run_seq ?_
  refine run_reg hm hT hC (ref24_Between_g2 (ref24_Between_K d) y1) h ?_
  intro y2 h
  refine cn_then ?_
  refine run_seq ?_
  refine run_seq ?_
  refine run_reg hm hT hC (ref24_Between_g3 (ref24_Between_K d) y2) h ?_
  intro y3 h
  refine cn_then ?_
  refine run_block ?_
  refine run_loop (G := iter (ref24_Between_L1 d )) (S := (fun x1 => ⟨[(5, .ptr 0 0), (7, .rs 1), (8, .rs 2), (9, .int .i64 x1.1)], [.cells [.int .i64 x1.2.1, .int .i64 x1.2.2.1], .rows Riii x1.2.2.2.1, .rows Riiiii x1.2.2.2.2]⟩ : Int × Int × Int × List Diii × List Diiiii → St)) (fun _ => rfl) ?_ d _ h
  intro n1 x1 h K1 hn1
  replace h : ref24_Between_L1 d  (iter (ref24_Between_L1 d ) n1) x1 = some r := h
  generalize iter (ref24_Between_L1 d ) n1 = self1 at h hn1
  unfold ref24_Between_L1 at h
  refine run_seq ?_
  refine run_seq ?_
  refine run_reg hm hT hC (ref24_Between_g4 (ref24_Between_K d) x1) h ?_
  intro y4 h
  refine cn_then ?_
  refine run_cond (v := y4.2.1) (by kernel_rfl) h ?_ ?_
  ·
    intro h
    refine run_skip ?_
    refine cn_then ?_
    refine run_seq ?_
    refine run_block ?_
    refine run_seq ?_
    refine run_seq ?_
    refine run_reg hm hT hC (ref24_Between_g6 (ref24_Between_K d) y4) h ?_
    intro y6 h
    refine cn_then ?_
    refine run_cond (v := y6.2.1) (by kernel_rfl) h ?_ ?_
    ·
      intro h
      refine run_seq ?_
      refine run_reg hm hT hC (ref24_Between_g7 (ref24_Between_K d) y6) h ?_
      intro y7 h
      refine cn_then ?_
      refine run_ret ?_
      refine cn_then_ret ?_
      refine cn_blk_ret ?_
      refine cn_then_ret ?_
      refine cn_then_ret ?_
      refine cn_blk_ret ?_
      refine cn_then_ret ?_
      cases h
      exact (hend _ (by kernel_rfl)).2
    ·
      intro h
      refine run_skip ?_
      refine cn_then ?_
      refine run_seq ?_
      refine run_reg hm hT hC (ref24_Between_g8 (ref24_Between_K d) y6) h ?_
      intro y8 h
      refine cn_then ?_
      refine run_join (r := r) (F := ref24_Between_J2 d self1) (S := (fun z => ⟨[(5, .ptr 0 0), (7, .rs 1), (8, .rs 2), (9, .int .i64 z.1), (10, .ptr 3 0)], [.cells [.int .i64 z.2.1, .int .i64 z.2.2.1], .rows Riii z.2.2.2.1, .rows Riiiii z.2.2.2.2.1, .cells [.int .i64 z.2.2.2.2.2.1, .int .i64 z.2.2.2.2.2.2]]⟩ : Int × Int × Int × List Diii × List Diiiii × Int × Int → St)) ?_ ?_
      ·
        intro z h
        unfold ref24_Between_J2 at h
        refine run_reg hm hT hC (ref24_Between_g11 (ref24_Between_K d) z) h ?_
        intro y11 h
        refine cn_blk ?_
        refine cn_then ?_
        refine run_reg hm hT hC (ref24_Between_g5 (ref24_Between_K d) y11) h ?_
        intro y5 h
        exact hn1 _ h
      intro hj2
      refine run_seq ?_
      refine run_reg hm hT hC (ref24_Between_g9 (ref24_Between_K d) y8) h ?_
      intro y9 h
      refine cn_then ?_
      refine run_cond (v := y9.2.1) (by kernel_rfl) h ?_ ?_
      ·
        intro h
        refine run_reg hm hT hC (ref24_Between_g10 (ref24_Between_K d) y9) h ?_
        intro y10 h
        exact hj2 _ h
      ·
        intro h
        refine run_skip ?_
        refine cn_num (s := ⟨[(5, .ptr 0 0), (7, .rs 1), (8, .rs 2), (9, .int .i64 y9.1), (10, .ptr 3 0)], [.cells [.int .i64 y9.2.2.1, .int .i64 y9.2.2.2.1], .rows Riii y9.2.2.2.2.1, .rows Riiiii y9.2.2.2.2.2.1, .cells [.int .i64 y9.2.2.2.2.2.2.1, .int .i64 y9.2.2.2.2.2.2.2]]⟩) [49] (by kernel_rfl) ?_
        exact hj2 _ h
  ·
    intro h
    refine run_exit ?_
    refine cn_then_exit ?_
    refine cn_then_exit ?_
    refine cn_blk_eq ?_
    refine cn_then ?_
    refine run_seq ?_
    refine run_reg hm hT hC (ref24_Between_g12 (ref24_Between_K d) y4) h ?_
    intro y12 h
    refine cn_then ?_
    refine run_ret ?_
    cases h
    exact (hend _ (by kernel_rfl)).2
abbrev ref24_Reigns_ps : List Pk := [.row RLiiiE true, .row Rii true, .row Rii true]
abbrev ref24_Reigns_X : Type := DLiiiE × Dii × Dii × Unit
abbrev ref24_Reigns_R : Type := List Diiiii × Int
def ref24_Reigns_enc (r : ref24_Reigns_R) : LV × List Ob := (.tup [.rs 0, .int .i64 r.2], [.rows Riiiii r.1])
def ref24_Reigns_sp (F : ref24_Reigns_X → Option ref24_Reigns_R) : Go.Tx.Spec := ⟨30, ref24_Reigns_ps, ref24_Reigns_R, F, ref24_Reigns_enc⟩
abbrev ref24_Reigns_C : Type := (ref24_Asked_X → Option ref24_Asked_R) × (ref24_Between_X → Option ref24_Between_R) × Unit
def ref24_Reigns_K (d : Nat) : ref24_Reigns_C := (F_ref24_Asked d, F_ref24_Between d, ())
def ref24_Reigns_tab (C : ref24_Reigns_C) : List Go.Tx.Spec := [ref24_Asked_sp C.1, ref24_Between_sp C.2.1]
abbrev ref24_Reigns_Y0i : Type := List Diii × Int × Int × Int × Int
def ref24_Reigns_S0i (v : ref24_Reigns_Y0i) : St := ⟨[(0, .agg [.fz Riii v.1]), (1, .agg [.int .i64 v.2.1, .int .i64 v.2.2.1]), (2, .agg [.int .i64 v.2.2.2.1, .int .i64 v.2.2.2.2])], []⟩
abbrev ref24_Reigns_Y0 : Type := List Diii × Int × Int × Int × Int
def ref24_Reigns_S0 (v : ref24_Reigns_Y0) : St := ⟨[(3, .ptr 0 0), (4, .ptr 1 0), (5, .ptr 2 0)], [.cells [.fz Riii v.1], .cells [.int .i64 v.2.1, .int .i64 v.2.2.1], .cells [.int .i64 v.2.2.2.1, .int .i64 v.2.2.2.2]]⟩
def ref24_Reigns_r0 (C : ref24_Reigns_C) (v : ref24_Reigns_Y0i) : Dt ref24_Reigns_Y0 := (Dt.ret (v.1, v.2.1, v.2.2.1, v.2.2.2.1, v.2.2.2.2))
theorem ref24_Reigns_g0 (C : ref24_Reigns_C) (v : ref24_Reigns_Y0i) : treg tysT (orc (ref24_Reigns_tab C)) 25 (regO (bodyOf f30) 0) false [(3, (.box [.val Riii])), (4, .any), (5, .any)] (ref24_Reigns_S0i v) some = (ref24_Reigns_r0 C v).eval fun y => some (ref24_Reigns_S0 y) := by kernel_rfl
abbrev ref24_Reigns_Y1 : Type := Bool × List Diii × Int × Int × Int × Int
def ref24_Reigns_S1 (v : ref24_Reigns_Y1) : St := ⟨[(3, .ptr 0 0), (4, .ptr 1 0), (5, .ptr 2 0), (12, .bool v.1)], [.cells [.fz Riii v.2.1], .cells [.int .i64 v.2.2.1, .int .i64 v.2.2.2.1], .cells [.int .i64 v.2.2.2.2.1, .int .i64 v.2.2.2.2.2]]⟩
def ref24_Reigns_r1 (C : ref24_Reigns_C) (v : ref24_Reigns_Y0) : Dt ref24_Reigns_Y1 := (Dt.bnd (C.1 ((v.1, ()), (v.2.1, v.2.2.1, ()), (v.2.2.2.1, v.2.2.2.2, ()), ())) fun r1 => (Dt.ret ((r1 != (0:Int)), v.1, v.2.1, v.2.2.1, v.2.2.2.1, v.2.2.2.2)))
theorem ref24_Reigns_g1 (C : ref24_Reigns_C) (v : ref24_Reigns_Y0) : treg tysT (orc (ref24_Reigns_tab C)) 25 (regO (bodyOf f30) 1) false [(3, (.box [.val Riii])), (4, .any), (5, .any), (12, .any)] (ref24_Reigns_S0 v) some = (ref24_Reigns_r1 C v).eval fun y => some (ref24_Reigns_S1 y) := by kernel_rfl
abbrev ref24_Reigns_Y2 : Type := Int × List Diiiii
def ref24_Reigns_S2 (v : ref24_Reigns_Y2) : St := ⟨[(6, .rs 0), (7, .int .i64 v.1)], [.rows Riiiii v.2]⟩
def ref24_Reigns_r2 (C : ref24_Reigns_C) (v : ref24_Reigns_Y1) : Dt ref24_Reigns_Y2 := (Dt.bnd (C.1 ((v.2.1, ()), (v.2.2.1, v.2.2.2.1, ()), (v.2.2.2.2.1, v.2.2.2.2.2, ()), ())) fun r1 => (Dt.ret (r1, ([] : List Diiiii))))
theorem ref24_Reigns_g2 (C : ref24_Reigns_C) (v : ref24_Reigns_Y1) : treg tysT (orc (ref24_Reigns_tab C)) 25 (regO (bodyOf f30) 2) false [(6, (.own Riiiii)), (7, .any)] (ref24_Reigns_S1 v) some = (ref24_Reigns_r2 C v).eval fun y => some (ref24_Reigns_S2 y) := by kernel_rfl
abbrev ref24_Reigns_Y3 : Type := Bool × List Diii × Int × Int × Int × Int
def ref24_Reigns_S3 (v : ref24_Reigns_Y3) : St := ⟨[(3, .ptr 0 0), (4, .ptr 1 0), (5, .ptr 2 0), (20, .bool v.1)], [.cells [.fz Riii v.2.1], .cells [.int .i64 v.2.2.1, .int .i64 v.2.2.2.1], .cells [.int .i64 v.2.2.2.2.1, .int .i64 v.2.2.2.2.2]]⟩
def ref24_Reigns_r3 (C : ref24_Reigns_C) (v : ref24_Reigns_Y1) : Dt ref24_Reigns_Y3 := (Dt.ret (((List.length v.2.1 : Int) == (0:Int)), v.2.1, v.2.2.1, v.2.2.2.1, v.2.2.2.2.1, v.2.2.2.2.2))
theorem ref24_Reigns_g3 (C : ref24_Reigns_C) (v : ref24_Reigns_Y1) : treg tysT (orc (ref24_Reigns_tab C)) 25 (regO (bodyOf f30) 3) false [(3, (.box [.val Riii])), (4, .any), (5, .any), (20, .any)] (ref24_Reigns_S1 v) some = (ref24_Reigns_r3 C v).eval fun y => some (ref24_Reigns_S3 y) := by kernel_rfl
def ref24_Reigns_r4 (C : ref24_Reigns_C) (v : ref24_Reigns_Y3) : Dt ref24_Reigns_Y2 := (Dt.ret ((42:Int), ([] : List Diiiii)))
theorem ref24_Reigns_g4 (C : ref24_Reigns_C) (v : ref24_Reigns_Y3) : treg tysT (orc (ref24_Reigns_tab C)) 25 (regO (bodyOf f30) 4) false [(6, (.own Riiiii)), (7, .any)] (ref24_Reigns_S3 v) some = (ref24_Reigns_r4 C v).eval fun y => some (ref24_Reigns_S2 y) := by kernel_rfl
def ref24_Reigns_r5 (C : ref24_Reigns_C) (v : ref24_Reigns_Y3) : Dt ref24_Reigns_Y2 := (Dt.bnd (C.2.1 ((v.2.1, ()), (v.2.2.1, v.2.2.2.1, ()), (v.2.2.2.2.1, v.2.2.2.2.2, ()), ())) fun r1 => (Dt.ret ((0:Int), r1)))
theorem ref24_Reigns_g5 (C : ref24_Reigns_C) (v : ref24_Reigns_Y3) : treg tysT (orc (ref24_Reigns_tab C)) 25 (regO (bodyOf f30) 5) false [(6, (.own Riiiii)), (7, .any)] (ref24_Reigns_S3 v) some = (ref24_Reigns_r5 C v).eval fun y => some (ref24_Reigns_S2 y) := by kernel_rfl
def F_ref24_Reigns (d : Nat) (x : ref24_Reigns_X) : Option ref24_Reigns_R :=
  (ref24_Reigns_r0 (ref24_Reigns_K d) (x.1.1, x.2.1.1, x.2.1.2.1, x.2.2.1.1, x.2.2.1.2.1)).eval fun y0 =>
  (ref24_Reigns_r1 (ref24_Reigns_K d) y0).eval fun y1 =>
  bif y1.1 then ((ref24_Reigns_r2 (ref24_Reigns_K d) y1).eval fun y2 =>
  some (y2.2, y2.1)) else ((ref24_Reigns_r3 (ref24_Reigns_K d) y1).eval fun y3 =>
  bif y3.1 then ((ref24_Reigns_r4 (ref24_Reigns_K d) y3).eval fun y4 =>
  some (y4.2, y4.1)) else ((ref24_Reigns_r5 (ref24_Reigns_K d) y3).eval fun y5 =>
  some (y5.2, y5.1)))
theorem ref24_Reigns_cok (d : Nat) : COK prog (ref24_Reigns_sp (F_ref24_Reigns d)) := by
  have hm : prog.follows .mixedOrders = true := mixed
  have hT := tys
  have hC0 : OrcOK prog (orc (ref24_Reigns_tab (ref24_Reigns_K d))) := orc_ok (by
    intro S hS
    simp only [ref24_Reigns_tab, List.mem_cons, List.not_mem_nil, or_false] at hS
    rcases hS with rfl | rfl
    · exact ref24_Asked_cok d
    · exact ref24_Between_cok d)
  have hC : OrcOK prog (orc (ref24_Reigns_tab (ref24_Reigns_K d))) := hC0
  refine cok_of (c := bodyOf f30) (fn := f30) hT (by kernel_rfl) (by kernel_rfl) (by decide) fun x r h w0 φ0 Q hend => ?_
  replace h : F_ref24_Reigns d x = some r := h
  unfold F_ref24_Reigns at h
  show Run prog w0 φ0 25 (bodyOf f30) ⟨[(0, .agg [.fz Riii x.1.1]), (1, .agg [.int .i64 x.2.1.1, .int .i64 x.2.1.2.1]), (2, .agg [.int .i64 x.2.2.1.1, .int .i64 x.2.2.1.2.1])], []⟩ Q
  refine run_seq ?_
  refine run_reg hm hT hC (ref24_Reigns_g0 (ref24_Reigns_K d) (x.1.1, x.2.1.1, x.2.1.2.1, x.2.2.1.1, x.2.2.1.2.1)) h ?_
  intro y0 h
  refine cn_then ?_
  refine run_seq ?_
  refine run_seq ?_
  refine run_reg hm hT hC (ref24_Reigns_g1 (ref24_Reigns_K d) y0) h ?_
  intro y1 h
  refine cn_then ?_
  refine run_cond (v := y1.1) (by kernel_rfl) h ?_ ?_
  ·
    intro h
    refine run_seq ?_
    refine run_reg hm hT hC (ref24_Reigns_g2 (ref24_Reigns_K d) y1) h ?_
    intro y2 h
    refine cn_then ?_
    refine run_ret ?_
    refine cn_then_ret ?_
    cases h
    exact (hend _ (by kernel_rfl)).2
  ·
    intro h
    refine run_skip ?_
    refine cn_then ?_
    refine run_seq ?_
    refine run_seq ?_
    refine run_reg hm hT hC (ref24_Reigns_g3 (ref24_Reigns_K d) y1) h ?_
    intro y3 h
    refine cn_then ?_
    refine run_cond (v := y3.1) (by kernel_rfl) h ?_ ?_
    ·
      intro h
      refine run_seq ?_
      refine run_reg hm hT hC (ref24_Reigns_g4 (ref24_Reigns_K d) y3) h ?_
      intro y4 h
      refine cn_then ?_
      refine run_ret ?_
      refine cn_then_ret ?_
      cases h
      exact (hend _ (by kernel_rfl)).2
    ·
      intro h
      refine run_skip ?_
      refine cn_then ?_
      refine run_seq ?_
      refine run_reg hm hT hC (ref24_Reigns_g5 (ref24_Reigns_K d) y3) h ?_
      intro y5 h
      refine cn_then ?_
      refine run_ret ?_
      cases h
      exact (hend _ (by kernel_rfl)).2
abbrev ref24_Laps_ps : List Pk := [.row RLiiiE true, .row Rii true, .row Rii true]
abbrev ref24_Laps_X : Type := DLiiiE × Dii × Dii × Unit
abbrev ref24_Laps_R : Type := Int × Int
def ref24_Laps_enc (r : ref24_Laps_R) : LV × List Ob := (.tup [.int .i64 r.1, .int .i64 r.2], [])
def ref24_Laps_sp (F : ref24_Laps_X → Option ref24_Laps_R) : Go.Tx.Spec := ⟨32, ref24_Laps_ps, ref24_Laps_R, F, ref24_Laps_enc⟩
abbrev ref24_Laps_C : Type := (ref01_Compare_X → Option ref01_Compare_R) × (ref05_Crest_X → Option ref05_Crest_R) × (ref24_Asked_X → Option ref24_Asked_R) × Unit
def ref24_Laps_K (d : Nat) : ref24_Laps_C := (F_ref01_Compare d, F_ref05_Crest d, F_ref24_Asked d, ())
def ref24_Laps_tab (C : ref24_Laps_C) : List Go.Tx.Spec := [ref01_Compare_sp C.1, ref05_Crest_sp C.2.1, ref24_Asked_sp C.2.2.1]
abbrev ref24_Laps_Y0i : Type := List Diii × Int × Int × Int × Int
def ref24_Laps_S0i (v : ref24_Laps_Y0i) : St := ⟨[(0, .agg [.fz Riii v.1]), (1, .agg [.int .i64 v.2.1, .int .i64 v.2.2.1]), (2, .agg [.int .i64 v.2.2.2.1, .int .i64 v.2.2.2.2])], []⟩
abbrev ref24_Laps_Y0 : Type := List Diii × Int × Int × Int × Int
def ref24_Laps_S0 (v : ref24_Laps_Y0) : St := ⟨[(3, .ptr 0 0), (4, .ptr 1 0), (5, .ptr 2 0)], [.cells [.fz Riii v.1], .cells [.int .i64 v.2.1, .int .i64 v.2.2.1], .cells [.int .i64 v.2.2.2.1, .int .i64 v.2.2.2.2]]⟩
def ref24_Laps_r0 (C : ref24_Laps_C) (v : ref24_Laps_Y0i) : Dt ref24_Laps_Y0 := (Dt.ret (v.1, v.2.1, v.2.2.1, v.2.2.2.1, v.2.2.2.2))
theorem ref24_Laps_g0 (C : ref24_Laps_C) (v : ref24_Laps_Y0i) : treg tysT (orc (ref24_Laps_tab C)) 46 (regO (bodyOf f32) 0) false [(3, (.box [.val Riii])), (4, .any), (5, .any)] (ref24_Laps_S0i v) some = (ref24_Laps_r0 C v).eval fun y => some (ref24_Laps_S0 y) := by kernel_rfl
abbrev ref24_Laps_Y1 : Type := Bool × List Diii × Int × Int × Int × Int
def ref24_Laps_S1 (v : ref24_Laps_Y1) : St := ⟨[(3, .ptr 0 0), (4, .ptr 1 0), (5, .ptr 2 0), (15, .bool v.1)], [.cells [.fz Riii v.2.1], .cells [.int .i64 v.2.2.1, .int .i64 v.2.2.2.1], .cells [.int .i64 v.2.2.2.2.1, .int .i64 v.2.2.2.2.2]]⟩
def ref24_Laps_r1 (C : ref24_Laps_C) (v : ref24_Laps_Y0) : Dt ref24_Laps_Y1 := (Dt.bnd (C.2.2.1 ((v.1, ()), (v.2.1, v.2.2.1, ()), (v.2.2.2.1, v.2.2.2.2, ()), ())) fun r1 => (Dt.ret ((r1 != (0:Int)), v.1, v.2.1, v.2.2.1, v.2.2.2.1, v.2.2.2.2)))
theorem ref24_Laps_g1 (C : ref24_Laps_C) (v : ref24_Laps_Y0) : treg tysT (orc (ref24_Laps_tab C)) 46 (regO (bodyOf f32) 1) false [(3, (.box [.val Riii])), (4, .any), (5, .any), (15, .any)] (ref24_Laps_S0 v) some = (ref24_Laps_r1 C v).eval fun y => some (ref24_Laps_S1 y) := by kernel_rfl
abbrev ref24_Laps_Y2 : Type := Int × Int
def ref24_Laps_S2 (v : ref24_Laps_Y2) : St := ⟨[(6, .int .i64 v.1), (7, .int .i64 v.2)], []⟩
def ref24_Laps_r2 (C : ref24_Laps_C) (v : ref24_Laps_Y1) : Dt ref24_Laps_Y2 := (Dt.bnd (C.2.2.1 ((v.2.1, ()), (v.2.2.1, v.2.2.2.1, ()), (v.2.2.2.2.1, v.2.2.2.2.2, ()), ())) fun r1 => (Dt.ret ((0:Int), r1)))
theorem ref24_Laps_g2 (C : ref24_Laps_C) (v : ref24_Laps_Y1) : treg tysT (orc (ref24_Laps_tab C)) 46 (regO (bodyOf f32) 2) false [(6, .any), (7, .any)] (ref24_Laps_S1 v) some = (ref24_Laps_r2 C v).eval fun y => some (ref24_Laps_S2 y) := by kernel_rfl
abbrev ref24_Laps_Y3 : Type := Bool × List Diii × Int × Int × Int × Int
def ref24_Laps_S3 (v : ref24_Laps_Y3) : St := ⟨[(3, .ptr 0 0), (4, .ptr 1 0), (5, .ptr 2 0), (23, .bool v.1)], [.cells [.fz Riii v.2.1], .cells [.int .i64 v.2.2.1, .int .i64 v.2.2.2.1], .cells [.int .i64 v.2.2.2.2.1, .int .i64 v.2.2.2.2.2]]⟩
def ref24_Laps_r3 (C : ref24_Laps_C) (v : ref24_Laps_Y1) : Dt ref24_Laps_Y3 := (Dt.ret (((List.length v.2.1 : Int) == (0:Int)), v.2.1, v.2.2.1, v.2.2.2.1, v.2.2.2.2.1, v.2.2.2.2.2))
theorem ref24_Laps_g3 (C : ref24_Laps_C) (v : ref24_Laps_Y1) : treg tysT (orc (ref24_Laps_tab C)) 46 (regO (bodyOf f32) 3) false [(3, (.box [.val Riii])), (4, .any), (5, .any), (23, .any)] (ref24_Laps_S1 v) some = (ref24_Laps_r3 C v).eval fun y => some (ref24_Laps_S3 y) := by kernel_rfl
def ref24_Laps_r4 (C : ref24_Laps_C) (v : ref24_Laps_Y3) : Dt ref24_Laps_Y2 := (Dt.ret ((0:Int), (42:Int)))
theorem ref24_Laps_g4 (C : ref24_Laps_C) (v : ref24_Laps_Y3) : treg tysT (orc (ref24_Laps_tab C)) 46 (regO (bodyOf f32) 4) false [(6, .any), (7, .any)] (ref24_Laps_S3 v) some = (ref24_Laps_r4 C v).eval fun y => some (ref24_Laps_S2 y) := by kernel_rfl
abbrev ref24_Laps_Y5 : Type := Int × Int × List Diii
def ref24_Laps_S5 (v : ref24_Laps_Y5) : St := ⟨[(5, .ptr 0 0), (8, .rs 1)], [.cells [.int .i64 v.1, .int .i64 v.2.1], .rows Riii v.2.2]⟩
def ref24_Laps_r5 (C : ref24_Laps_C) (v : ref24_Laps_Y3) : Dt ref24_Laps_Y5 := (Dt.bnd (C.2.1 ((v.2.1, ()), (v.2.2.1, v.2.2.2.1, ()), ())) fun r1 => (Dt.ret (v.2.2.2.2.1, v.2.2.2.2.2, r1)))
theorem ref24_Laps_g5 (C : ref24_Laps_C) (v : ref24_Laps_Y3) : treg tysT (orc (ref24_Laps_tab C)) 46 (regO (bodyOf f32) 5) false [(5, .any), (8, (.own Riii))] (ref24_Laps_S3 v) some = (ref24_Laps_r5 C v).eval fun y => some (ref24_Laps_S5 y) := by kernel_rfl
abbrev ref24_Laps_Y6 : Type := Int × Int × Int × List Diii
def ref24_Laps_S6 (v : ref24_Laps_Y6) : St := ⟨[(5, .ptr 0 0), (8, .rs 1), (9, .int .i64 v.1)], [.cells [.int .i64 v.2.1, .int .i64 v.2.2.1], .rows Riii v.2.2.2]⟩
def ref24_Laps_r6 (C : ref24_Laps_C) (v : ref24_Laps_Y5) : Dt ref24_Laps_Y6 := (Dt.ret ((0:Int), v.1, v.2.1, v.2.2))
theorem ref24_Laps_g6 (C : ref24_Laps_C) (v : ref24_Laps_Y5) : treg tysT (orc (ref24_Laps_tab C)) 46 (regO (bodyOf f32) 6) false [(5, .any), (8, (.own Riii)), (9, .any)] (ref24_Laps_S5 v) some = (ref24_Laps_r6 C v).eval fun y => some (ref24_Laps_S6 y) := by kernel_rfl
abbrev ref24_Laps_Y7 : Type := Int × Int × Int × Int × List Diii
def ref24_Laps_S7 (v : ref24_Laps_Y7) : St := ⟨[(5, .ptr 0 0), (8, .rs 1), (9, .int .i64 v.1), (10, .int .i64 v.2.1)], [.cells [.int .i64 v.2.2.1, .int .i64 v.2.2.2.1], .rows Riii v.2.2.2.2]⟩
def ref24_Laps_r7 (C : ref24_Laps_C) (v : ref24_Laps_Y6) : Dt ref24_Laps_Y7 := (Dt.ret (v.1, (1:Int), v.2.1, v.2.2.1, v.2.2.2))
theorem ref24_Laps_g7 (C : ref24_Laps_C) (v : ref24_Laps_Y6) : treg tysT (orc (ref24_Laps_tab C)) 46 (regO (bodyOf f32) 7) false [(5, .any), (8, (.own Riii)), (9, .any), (10, .any)] (ref24_Laps_S6 v) some = (ref24_Laps_r7 C v).eval fun y => some (ref24_Laps_S7 y) := by kernel_rfl
abbrev ref24_Laps_Y8 : Type := Int × Int × Bool × Int × Int × List Diii
def ref24_Laps_S8 (v : ref24_Laps_Y8) : St := ⟨[(5, .ptr 0 0), (8, .rs 1), (9, .int .i64 v.1), (10, .int .i64 v.2.1), (40, .bool v.2.2.1)], [.cells [.int .i64 v.2.2.2.1, .int .i64 v.2.2.2.2.1], .rows Riii v.2.2.2.2.2]⟩
def ref24_Laps_r8 (C : ref24_Laps_C) (v : ref24_Laps_Y7) : Dt ref24_Laps_Y8 := (Dt.ite (decide (v.2.1 < (List.length v.2.2.2.2 : Int))) (Dt.ite (inB v.2.1 (List.length v.2.2.2.2)) (Dt.bnd (C.1 (((elt ziii v.2.2.2.2 (v.2.1).toNat).1, (elt ziii v.2.2.2.2 (v.2.1).toNat).2.1, ()), (v.2.2.1, v.2.2.2.1, ()), ())) fun r1 => (Dt.ret (v.1, v.2.1, (decide (r1 ≤ (0:Int))), v.2.2.1, v.2.2.2.1, v.2.2.2.2))) Dt.fail) (Dt.ret (v.1, v.2.1, false, v.2.2.1, v.2.2.2.1, v.2.2.2.2)))
theorem ref24_Laps_g8 (C : ref24_Laps_C) (v : ref24_Laps_Y7) : treg tysT (orc (ref24_Laps_tab C)) 46 (regO (bodyOf f32) 8) true [(5, .any), (8, (.own Riii)), (9, .any), (10, .any), (40, .any)] (ref24_Laps_S7 v) some = (ref24_Laps_r8 C v).eval fun y => some (ref24_Laps_S8 y) := by kernel_rfl
def ref24_Laps_r10 (C : ref24_Laps_C) (v : ref24_Laps_Y8) : Dt ref24_Laps_Y7 := (Dt.ret ((IntKind.wrap .i64 (v.1 + (1:Int))), v.2.1, v.2.2.2.1, v.2.2.2.2.1, v.2.2.2.2.2))
theorem ref24_Laps_g10 (C : ref24_Laps_C) (v : ref24_Laps_Y8) : treg tysT (orc (ref24_Laps_tab C)) 46 (regO (bodyOf f32) 10) false [(5, .any), (8, (.own Riii)), (9, .any), (10, .any)] (ref24_Laps_S8 v) some = (ref24_Laps_r10 C v).eval fun y => some (ref24_Laps_S7 y) := by kernel_rfl
def ref24_Laps_r9 (C : ref24_Laps_C) (v : ref24_Laps_Y7) : Dt ref24_Laps_Y7 := (Dt.ret (v.1, (IntKind.wrap .i64 (v.2.1 + (1:Int))), v.2.2.1, v.2.2.2.1, v.2.2.2.2))
theorem ref24_Laps_g9 (C : ref24_Laps_C) (v : ref24_Laps_Y7) : treg tysT (orc (ref24_Laps_tab C)) 46 (regO (bodyOf f32) 9) false [(5, .any), (8, (.own Riii)), (9, .any), (10, .any)] (ref24_Laps_S7 v) some = (ref24_Laps_r9 C v).eval fun y => some (ref24_Laps_S7 y) := by kernel_rfl
def ref24_Laps_r11 (C : ref24_Laps_C) (v : ref24_Laps_Y8) : Dt ref24_Laps_Y2 := (Dt.ret (v.1, (0:Int)))
theorem ref24_Laps_g11 (C : ref24_Laps_C) (v : ref24_Laps_Y8) : treg tysT (orc (ref24_Laps_tab C)) 46 (regO (bodyOf f32) 11) false [(6, .any), (7, .any)] (ref24_Laps_S8 v) some = (ref24_Laps_r11 C v).eval fun y => some (ref24_Laps_S2 y) := by kernel_rfl
def ref24_Laps_L1 (d : Nat) (self1 : (Int × Int × Int × Int × List Diii) → Option ref24_Laps_R) (x1 : Int × Int × Int × Int × List Diii) : Option ref24_Laps_R :=
  (ref24_Laps_r8 (ref24_Laps_K d) x1).eval fun y8 =>
  bif y8.2.2.1 then ((ref24_Laps_r10 (ref24_Laps_K d) y8).eval fun y10 =>
  (ref24_Laps_r9 (ref24_Laps_K d) y10).eval fun y9 =>
  self1 y9) else ((ref24_Laps_r11 (ref24_Laps_K d) y8).eval fun y11 =>
  some y11)
def F_ref24_Laps (d : Nat) (x : ref24_Laps_X) : Option ref24_Laps_R :=
  (ref24_Laps_r0 (ref24_Laps_K d) (x.1.1, x.2.1.1, x.2.1.2.1, x.2.2.1.1, x.2.2.1.2.1)).eval fun y0 =>
  (ref24_Laps_r1 (ref24_Laps_K d) y0).eval fun y1 =>
  bif y1.1 then ((ref24_Laps_r2 (ref24_Laps_K d) y1).eval fun y2 =>
  some y2) else ((ref24_Laps_r3 (ref24_Laps_K d) y1).eval fun y3 =>
  bif y3.1 then ((ref24_Laps_r4 (ref24_Laps_K d) y3).eval fun y4 =>
  some y4) else ((ref24_Laps_r5 (ref24_Laps_K d) y3).eval fun y5 =>
  (ref24_Laps_r6 (ref24_Laps_K d) y5).eval fun y6 =>
  (ref24_Laps_r7 (ref24_Laps_K d) y6).eval fun y7 =>
  iter (ref24_Laps_L1 d ) d y7))
theorem ref24_Laps_cok (d : Nat) : COK prog (ref24_Laps_sp (F_ref24_Laps d)) := by
  have hm : prog.follows .mixedOrders = true := mixed
  have hT := tys
  have hC0 : OrcOK prog (orc (ref24_Laps_tab (ref24_Laps_K d))) := orc_ok (by
    intro S hS
    simp only [ref24_Laps_tab, List.mem_cons, List.not_mem_nil, or_false] at hS
    rcases hS with rfl | rfl | rfl
    · exact ref01_Compare_cok d
    · exact ref05_Crest_cok d
    · exact ref24_Asked_cok d)
  have hC : OrcOK prog (orc (ref24_Laps_tab (ref24_Laps_K d))) := hC0
  refine cok_of (c := bodyOf f32) (fn := f32) hT (by kernel_rfl) (by kernel_rfl) (by decide) fun x r h w0 φ0 Q hend => ?_
  replace h : F_ref24_Laps d x = some r := h
  unfold F_ref24_Laps at h
  show Run prog w0 φ0 46 (bodyOf f32) ⟨[(0, .agg [.fz Riii x.1.1]), (1, .agg [.int .i64 x.2.1.1, .int .i64 x.2.1.2.1]), (2, .agg [.int .i64 x.2.2.1.1, .int .i64 x.2.2.1.2.1])], []⟩ Q
  refine run_seq ?_
  refine run_reg hm hT hC (ref24_Laps_g0 (ref24_Laps_K d) (x.1.1, x.2.1.1, x.2.1.2.1, x.2.2.1.1, x.2.2.1.2.1)) h ?_
  intro y0 h
  refine cn_then ?_
  refine run_seq ?_
  refine run_seq ?_
  refine run_reg hm hT hC (ref24_Laps_g1 (ref24_Laps_K d) y0) h ?_
  intro y1 h
  refine cn_then ?_
  refine run_cond (v := y1.1) (by kernel_rfl) h ?_ ?_
  ·
    intro h
    refine run_seq ?_
    refine run_reg hm hT hC (ref24_Laps_g2 (ref24_Laps_K d) y1) h ?_
    intro y2 h
    refine cn_then ?_
    refine run_ret ?_
    refine cn_then_ret ?_
    cases h
    exact (hend _ (by kernel_rfl)).2
  ·
    intro h
    refine run_skip ?_
    refine cn_then ?_
    refine run_seq ?_
    refine run_seq ?_
    refine run_reg hm hT hC (ref24_Laps_g3 (ref24_Laps_K d) y1) h ?_
    intro y3 h
    refine cn_then ?_
    refine run_cond (v := y3.1) (by kernel_rfl) h ?_ ?_
    ·
      intro h
      refine run_seq ?_
      refine run_reg hm hT hC (ref24_Laps_g4 (ref24_Laps_K d) y3) h ?_
      intro y4 h
      refine cn_then ?_
      refine run_ret ?_
      refine cn_then_ret ?_
      cases h
      exact (hend _ (by kernel_rfl)).2
    ·
      intro h
      refine run_skip ?_
      refine cn_then ?_
      refine run_seq ?_
      refine run_reg hm hT hC (ref24_Laps_g5 (ref24_Laps_K d) y3) h ?_
      intro y5 h
      refine cn_then ?_
      refine run_seq ?_
      refine run_reg hm hT hC (ref24_Laps_g6 (ref24_Laps_K d) y5) h ?_
      intro y6 h
      refine cn_then ?_
      refine run_seq ?_
      refine run_seq ?_
      refine run_reg hm hT hC (ref24_Laps_g7 (ref24_Laps_K d) y6) h ?_
      intro y7 h
      refine cn_then ?_
      refine run_block ?_
      refine run_loop (G := iter (ref24_Laps_L1 d )) (S := (fun x1 => ⟨[(5, .ptr 0 0), (8, .rs 1), (9, .int .i64 x1.1), (10, .int .i64 x1.2.1)], [.cells [.int .i64 x1.2.2.1, .int .i64 x1.2.2.2.1], .rows Riii x1.2.2.2.2]⟩ : Int × Int × Int × Int × List Diii → St)) (fun _ => rfl) ?_ d _ h
      intro n1 x1 h K1 hn1
      replace h : ref24_Laps_L1 d  (iter (ref24_Laps_L1 d ) n1) x1 = some r := h
      generalize iter (ref24_Laps_L1 d ) n1 = self1 at h hn1
      unfold ref24_Laps_L1 at h
      refine run_seq ?_
      refine run_seq ?_
      refine run_reg hm hT hC (ref24_Laps_g8 (ref24_Laps_K d) x1) h ?_
      intro y8 h
      refine cn_then ?_
      refine run_cond (v := y8.2.2.1) (by kernel_rfl) h ?_ ?_
      ·
        intro h
        refine run_skip ?_
        refine cn_then ?_
        refine run_seq ?_
        refine run_block ?_
        refine run_reg hm hT hC (ref24_Laps_g10 (ref24_Laps_K d) y8) h ?_
        intro y10 h
        refine cn_blk ?_
        refine cn_then ?_
        refine run_reg hm hT hC (ref24_Laps_g9 (ref24_Laps_K d) y10) h ?_
        intro y9 h
        exact hn1 _ h
      ·
        intro h
        refine run_exit ?_
        refine cn_then_exit ?_
        refine cn_then_exit ?_
        refine cn_blk_eq ?_
        refine cn_then ?_
        refine run_seq ?_
        refine run_reg hm hT hC (ref24_Laps_g11 (ref24_Laps_K d) y8) h ?_
        intro y11 h
        refine cn_then ?_
        refine run_ret ?_
        cases h
        exact (hend _ (by kernel_rfl)).2
abbrev ref24_Check_ps : List Pk := [.row RLiiiiiE false]
abbrev ref24_Check_X : Type := DLiiiiiE × Unit
abbrev ref24_Check_R : Type := Int
def ref24_Check_enc (r : ref24_Check_R) : LV × List Ob := (.int .i64 r, [])
def ref24_Check_sp (F : ref24_Check_X → Option ref24_Check_R) : Go.Tx.Spec := ⟨35, ref24_Check_ps, ref24_Check_R, F, ref24_Check_enc⟩
abbrev ref24_Check_C : Type := (ref01_Compare_X → Option ref01_Compare_R) × (ref01_Both_X → Option ref01_Both_R) × Unit
def ref24_Check_K (d : Nat) : ref24_Check_C := (F_ref01_Compare d, F_ref01_Both d, ())
def ref24_Check_tab (C : ref24_Check_C) : List Go.Tx.Spec := [ref01_Compare_sp C.1, ref01_Both_sp C.2.1]
abbrev ref24_Check_Y0i : Type := List Diiiii
def ref24_Check_S0i (v : ref24_Check_Y0i) : St := ⟨[(0, .fz Riiiii v)], []⟩
def ref24_Check_r0 (C : ref24_Check_C) (v : ref24_Check_Y0i) : Dt ref24_Check_Y0i := (Dt.ret v)
theorem ref24_Check_g0 (C : ref24_Check_C) (v : ref24_Check_Y0i) : treg tysT (orc (ref24_Check_tab C)) 101 (regO (bodyOf f35) 0) false [(0, (.val Riiiii))] (ref24_Check_S0i v) some = (ref24_Check_r0 C v).eval fun y => some (ref24_Check_S0i y) := by kernel_rfl
abbrev ref24_Check_Y1 : Type := List Diiiii × Bool
def ref24_Check_S1 (v : ref24_Check_Y1) : St := ⟨[(0, .fz Riiiii v.1), (12, .bool v.2)], []⟩
def ref24_Check_r1 (C : ref24_Check_C) (v : ref24_Check_Y0i) : Dt ref24_Check_Y1 := (Dt.ite (decide ((List.length v : Int) < (1:Int))) (Dt.ret (v, true)) (Dt.ret (v, (decide ((List.length v : Int) > (300:Int))))))
theorem ref24_Check_g1 (C : ref24_Check_C) (v : ref24_Check_Y0i) : treg tysT (orc (ref24_Check_tab C)) 101 (regO (bodyOf f35) 1) false [(0, (.val Riiiii)), (12, .any)] (ref24_Check_S0i v) some = (ref24_Check_r1 C v).eval fun y => some (ref24_Check_S1 y) := by kernel_rfl
abbrev ref24_Check_Y2 : Type := Int
def ref24_Check_S2 (v : ref24_Check_Y2) : St := ⟨[(2, .int .i64 v)], []⟩
def ref24_Check_r2 (C : ref24_Check_C) (v : ref24_Check_Y1) : Dt ref24_Check_Y2 := (Dt.ret (8:Int))
theorem ref24_Check_g2 (C : ref24_Check_C) (v : ref24_Check_Y1) : treg tysT (orc (ref24_Check_tab C)) 101 (regO (bodyOf f35) 2) false [(2, .any)] (ref24_Check_S1 v) some = (ref24_Check_r2 C v).eval fun y => some (ref24_Check_S2 y) := by kernel_rfl
abbrev ref24_Check_Y3 : Type := List Diiiii × Int
def ref24_Check_S3 (v : ref24_Check_Y3) : St := ⟨[(0, .fz Riiiii v.1), (3, .int .i64 v.2)], []⟩
def ref24_Check_r3 (C : ref24_Check_C) (v : ref24_Check_Y1) : Dt ref24_Check_Y3 := (Dt.ret (v.1, (0:Int)))
theorem ref24_Check_g3 (C : ref24_Check_C) (v : ref24_Check_Y1) : treg tysT (orc (ref24_Check_tab C)) 101 (regO (bodyOf f35) 3) false [(0, (.val Riiiii)), (3, .any)] (ref24_Check_S1 v) some = (ref24_Check_r3 C v).eval fun y => some (ref24_Check_S3 y) := by kernel_rfl
abbrev ref24_Check_Y4 : Type := List Diiiii × Int × Bool
def ref24_Check_S4 (v : ref24_Check_Y4) : St := ⟨[(0, .fz Riiiii v.1), (3, .int .i64 v.2.1), (16, .bool v.2.2)], []⟩
def ref24_Check_r4 (C : ref24_Check_C) (v : ref24_Check_Y3) : Dt ref24_Check_Y4 := (Dt.ret (v.1, v.2, (decide (v.2 < (List.length v.1 : Int)))))
theorem ref24_Check_g4 (C : ref24_Check_C) (v : ref24_Check_Y3) : treg tysT (orc (ref24_Check_tab C)) 101 (regO (bodyOf f35) 4) false [(0, (.val Riiiii)), (3, .any), (16, .any)] (ref24_Check_S3 v) some = (ref24_Check_r4 C v).eval fun y => some (ref24_Check_S4 y) := by kernel_rfl
abbrev ref24_Check_Y6 : Type := List Diiiii × Int × Bool
def ref24_Check_S6 (v : ref24_Check_Y6) : St := ⟨[(0, .fz Riiiii v.1), (3, .int .i64 v.2.1), (46, .bool v.2.2)], []⟩
def ref24_Check_r6 (C : ref24_Check_C) (v : ref24_Check_Y4) : Dt ref24_Check_Y6 := (Dt.ite (inB v.2.1 (List.length v.1)) (Dt.ite (inB v.2.1 (List.length v.1)) (Dt.bnd (C.2.1 (((elt ziiiii v.1 (v.2.1).toNat).1, (elt ziiiii v.1 (v.2.1).toNat).2.1, ()), ((elt ziiiii v.1 (v.2.1).toNat).2.2.1, (elt ziiiii v.1 (v.2.1).toNat).2.2.2.1, ()), ())) fun r1 => (Dt.ite (r1 != (0:Int)) (Dt.ret (v.1, v.2.1, true)) (Dt.ite (inB v.2.1 (List.length v.1)) (Dt.ite (decide ((elt ziiiii v.1 (v.2.1).toNat).2.2.2.2.1 < (0:Int))) (Dt.ret (v.1, v.2.1, true)) (Dt.ite (inB v.2.1 (List.length v.1)) (Dt.ret (v.1, v.2.1, (decide ((elt ziiiii v.1 (v.2.1).toNat).2.2.2.2.1 > (65535:Int))))) Dt.fail)) Dt.fail))) Dt.fail) Dt.fail)
theorem ref24_Check_g6 (C : ref24_Check_C) (v : ref24_Check_Y4) : treg tysT (orc (ref24_Check_tab C)) 101 (regO (bodyOf f35) 6) true [(0, (.val Riiiii)), (3, .any), (46, .any)] (ref24_Check_S4 v) some = (ref24_Check_r6 C v).eval fun y => some (ref24_Check_S6 y) := by kernel_rfl
def ref24_Check_r7 (C : ref24_Check_C) (v : ref24_Check_Y6) : Dt ref24_Check_Y2 := (Dt.ret (8:Int))
theorem ref24_Check_g7 (C : ref24_Check_C) (v : ref24_Check_Y6) : treg tysT (orc (ref24_Check_tab C)) 101 (regO (bodyOf f35) 7) false [(2, .any)] (ref24_Check_S6 v) some = (ref24_Check_r7 C v).eval fun y => some (ref24_Check_S2 y) := by kernel_rfl
abbrev ref24_Check_Y8 : Type := List Diiiii × Int × Int
def ref24_Check_S8 (v : ref24_Check_Y8) : St := ⟨[(0, .fz Riiiii v.1), (3, .int .i64 v.2.1), (4, .int .i64 v.2.2)], []⟩
def ref24_Check_r8 (C : ref24_Check_C) (v : ref24_Check_Y6) : Dt ref24_Check_Y8 := (Dt.ite (inB v.2.1 (List.length v.1)) (Dt.ite (inB v.2.1 (List.length v.1)) (Dt.bnd (C.1 (((elt ziiiii v.1 (v.2.1).toNat).1, (elt ziiiii v.1 (v.2.1).toNat).2.1, ()), ((elt ziiiii v.1 (v.2.1).toNat).2.2.1, (elt ziiiii v.1 (v.2.1).toNat).2.2.2.1, ()), ())) fun r1 => (Dt.ret (v.1, v.2.1, r1))) Dt.fail) Dt.fail)
theorem ref24_Check_g8 (C : ref24_Check_C) (v : ref24_Check_Y6) : treg tysT (orc (ref24_Check_tab C)) 101 (regO (bodyOf f35) 8) true [(0, (.val Riiiii)), (3, .any), (4, .any)] (ref24_Check_S6 v) some = (ref24_Check_r8 C v).eval fun y => some (ref24_Check_S8 y) := by kernel_rfl
abbrev ref24_Check_Y9 : Type := List Diiiii × Int × Bool
def ref24_Check_S9 (v : ref24_Check_Y9) : St := ⟨[(0, .fz Riiiii v.1), (3, .int .i64 v.2.1), (100, .bool v.2.2)], []⟩
def ref24_Check_r9 (C : ref24_Check_C) (v : ref24_Check_Y8) : Dt ref24_Check_Y9 := (Dt.ite (decide (v.2.2 > (0:Int))) (Dt.ret (v.1, v.2.1, true)) (Dt.ite (v.2.2 == (0:Int)) (Dt.ite (decide ((List.length v.1 : Int) > (1:Int))) (Dt.ret (v.1, v.2.1, true)) (Dt.ite (decide (v.2.1 > (0:Int))) (Dt.ite (inB (IntKind.wrap .i64 (v.2.1 - (1:Int))) (List.length v.1)) (Dt.ite (inB v.2.1 (List.length v.1)) (Dt.ite (!(((elt ziiiii v.1 ((IntKind.wrap .i64 (v.2.1 - (1:Int)))).toNat).2.2.1 == (elt ziiiii v.1 (v.2.1).toNat).1) && (((elt ziiiii v.1 ((IntKind.wrap .i64 (v.2.1 - (1:Int)))).toNat).2.2.2.1 == (elt ziiiii v.1 (v.2.1).toNat).2.1) && true))) (Dt.ret (v.1, v.2.1, true)) (Dt.ite (inB (IntKind.wrap .i64 (v.2.1 - (1:Int))) (List.length v.1)) (Dt.ite (inB v.2.1 (List.length v.1)) (Dt.ret (v.1, v.2.1, ((elt ziiiii v.1 ((IntKind.wrap .i64 (v.2.1 - (1:Int)))).toNat).2.2.2.2.1 == (elt ziiiii v.1 (v.2.1).toNat).2.2.2.2.1))) Dt.fail) Dt.fail)) Dt.fail) Dt.fail) (Dt.ret (v.1, v.2.1, false)))) (Dt.ite (decide (v.2.1 > (0:Int))) (Dt.ite (inB (IntKind.wrap .i64 (v.2.1 - (1:Int))) (List.length v.1)) (Dt.ite (inB v.2.1 (List.length v.1)) (Dt.ite (!(((elt ziiiii v.1 ((IntKind.wrap .i64 (v.2.1 - (1:Int)))).toNat).2.2.1 == (elt ziiiii v.1 (v.2.1).toNat).1) && (((elt ziiiii v.1 ((IntKind.wrap .i64 (v.2.1 - (1:Int)))).toNat).2.2.2.1 == (elt ziiiii v.1 (v.2.1).toNat).2.1) && true))) (Dt.ret (v.1, v.2.1, true)) (Dt.ite (inB (IntKind.wrap .i64 (v.2.1 - (1:Int))) (List.length v.1)) (Dt.ite (inB v.2.1 (List.length v.1)) (Dt.ret (v.1, v.2.1, ((elt ziiiii v.1 ((IntKind.wrap .i64 (v.2.1 - (1:Int)))).toNat).2.2.2.2.1 == (elt ziiiii v.1 (v.2.1).toNat).2.2.2.2.1))) Dt.fail) Dt.fail)) Dt.fail) Dt.fail) (Dt.ret (v.1, v.2.1, false)))))
theorem ref24_Check_g9 (C : ref24_Check_C) (v : ref24_Check_Y8) : treg tysT (orc (ref24_Check_tab C)) 101 (regO (bodyOf f35) 9) true [(0, (.val Riiiii)), (3, .any), (100, .any)] (ref24_Check_S8 v) some = (ref24_Check_r9 C v).eval fun y => some (ref24_Check_S9 y) := by kernel_rfl
def ref24_Check_r10 (C : ref24_Check_C) (v : ref24_Check_Y9) : Dt ref24_Check_Y2 := (Dt.ret (8:Int))
theorem ref24_Check_g10 (C : ref24_Check_C) (v : ref24_Check_Y9) : treg tysT (orc (ref24_Check_tab C)) 101 (regO (bodyOf f35) 10) false [(2, .any)] (ref24_Check_S9 v) some = (ref24_Check_r10 C v).eval fun y => some (ref24_Check_S2 y) := by kernel_rfl
def ref24_Check_r5 (C : ref24_Check_C) (v : ref24_Check_Y9) : Dt ref24_Check_Y3 := (Dt.ret (v.1, (IntKind.wrap .i64 (v.2.1 + (1:Int)))))
theorem ref24_Check_g5 (C : ref24_Check_C) (v : ref24_Check_Y9) : treg tysT (orc (ref24_Check_tab C)) 101 (regO (bodyOf f35) 5) false [(0, (.val Riiiii)), (3, .any)] (ref24_Check_S9 v) some = (ref24_Check_r5 C v).eval fun y => some (ref24_Check_S3 y) := by kernel_rfl
def ref24_Check_r11 (C : ref24_Check_C) (v : ref24_Check_Y4) : Dt ref24_Check_Y2 := (Dt.ret (0:Int))
theorem ref24_Check_g11 (C : ref24_Check_C) (v : ref24_Check_Y4) : treg tysT (orc (ref24_Check_tab C)) 101 (regO (bodyOf f35) 11) false [(2, .any)] (ref24_Check_S4 v) some = (ref24_Check_r11 C v).eval fun y => some (ref24_Check_S2 y) := by kernel_rfl
def ref24_Check_L1 (d : Nat) (self1 : (List Diiiii × Int) → Option ref24_Check_R) (x1 : List Diiiii × Int) : Option ref24_Check_R :=
  (ref24_Check_r4 (ref24_Check_K d) x1).eval fun y4 =>
  bif y4.2.2 then ((ref24_Check_r6 (ref24_Check_K d) y4).eval fun y6 =>
  bif y6.2.2 then ((ref24_Check_r7 (ref24_Check_K d) y6).eval fun y7 =>
  some y7) else ((ref24_Check_r8 (ref24_Check_K d) y6).eval fun y8 =>
  (ref24_Check_r9 (ref24_Check_K d) y8).eval fun y9 =>
  bif y9.2.2 then ((ref24_Check_r10 (ref24_Check_K d) y9).eval fun y10 =>
  some y10) else ((ref24_Check_r5 (ref24_Check_K d) y9).eval fun y5 =>
  self1 y5))) else ((ref24_Check_r11 (ref24_Check_K d) y4).eval fun y11 =>
  some y11)
def F_ref24_Check (d : Nat) (x : ref24_Check_X) : Option ref24_Check_R :=
  (ref24_Check_r0 (ref24_Check_K d) x.1.1).eval fun y0 =>
  (ref24_Check_r1 (ref24_Check_K d) y0).eval fun y1 =>
  bif y1.2 then ((ref24_Check_r2 (ref24_Check_K d) y1).eval fun y2 =>
  some y2) else ((ref24_Check_r3 (ref24_Check_K d) y1).eval fun y3 =>
  iter (ref24_Check_L1 d ) d y3)
theorem ref24_Check_cok (d : Nat) : COK prog (ref24_Check_sp (F_ref24_Check d)) := by
  have hm : prog.follows .mixedOrders = true := mixed
  have hT := tys
  have hC0 : OrcOK prog (orc (ref24_Check_tab (ref24_Check_K d))) := orc_ok (by
    intro S hS
    simp only [ref24_Check_tab, List.mem_cons, List.not_mem_nil, or_false] at hS
    rcases hS with rfl | rfl
    · exact ref01_Compare_cok d
    · exact ref01_Both_cok d)
  have hC : OrcOK prog (orc (ref24_Check_tab (ref24_Check_K d))) := hC0
  refine cok_of (c := bodyOf f35) (fn := f35) hT (by kernel_rfl) (by kernel_rfl) (by decide) fun x r h w0 φ0 Q hend => ?_
  replace h : F_ref24_Check d x = some r := h
  unfold F_ref24_Check at h
  show Run prog w0 φ0 101 (bodyOf f35) ⟨[(0, .fz Riiiii x.1.1)], []⟩ Q
  refine run_seq ?_
  refine run_reg hm hT hC (ref24_Check_g0 (ref24_Check_K d) x.1.1) h ?_
  intro y0 h
  refine cn_then ?_
  refine run_seq ?_
  refine run_seq ?_
  refine run_reg hm hT hC (ref24_Check_g1 (ref24_Check_K d) y0) h ?_
  intro y1 h
  refine cn_then ?_
  refine run_cond (v := y1.2) (by kernel_rfl) h ?_ ?_
  ·
    intro h
    refine run_seq ?_
    refine run_reg hm hT hC (ref24_Check_g2 (ref24_Check_K d) y1) h ?_
    intro y2 h
    refine cn_then ?_
    refine run_ret ?_
    refine cn_then_ret ?_
    cases h
    exact (hend _ (by kernel_rfl)).2
  ·
    intro h
    refine run_skip ?_
    refine cn_then ?_
    refine run_seq ?_
    refine run_seq ?_
    refine run_reg hm hT hC (ref24_Check_g3 (ref24_Check_K d) y1) h ?_
    intro y3 h
    refine cn_then ?_
    refine run_block ?_
    refine run_loop (G := iter (ref24_Check_L1 d )) (S := (fun x1 => ⟨[(0, .fz Riiiii x1.1), (3, .int .i64 x1.2)], []⟩ : List Diiiii × Int → St)) (fun _ => rfl) ?_ d _ h
    intro n1 x1 h K1 hn1
    replace h : ref24_Check_L1 d  (iter (ref24_Check_L1 d ) n1) x1 = some r := h
    generalize iter (ref24_Check_L1 d ) n1 = self1 at h hn1
    unfold ref24_Check_L1 at h
    refine run_seq ?_
    refine run_seq ?_
    refine run_reg hm hT hC (ref24_Check_g4 (ref24_Check_K d) x1) h ?_
    intro y4 h
    refine cn_then ?_
    refine run_cond (v := y4.2.2) (by kernel_rfl) h ?_ ?_
    ·
      intro h
      refine run_skip ?_
      refine cn_then ?_
      refine run_seq ?_
      refine run_block ?_
      refine run_seq ?_
      refine run_seq ?_
      refine run_reg hm hT hC (ref24_Check_g6 (ref24_Check_K d) y4) h ?_
      intro y6 h
      refine cn_then ?_
      refine run_cond (v := y6.2.2) (by kernel_rfl) h ?_ ?_
      ·
        intro h
        refine run_seq ?_
        refine run_reg hm hT hC (ref24_Check_g7 (ref24_Check_K d) y6) h ?_
        intro y7 h
        refine cn_then ?_
        refine run_ret ?_
        refine cn_then_ret ?_
        refine cn_blk_ret ?_
        refine cn_then_ret ?_
        refine cn_then_ret ?_
        refine cn_blk_ret ?_
        refine cn_then_ret ?_
        cases h
        exact (hend _ (by kernel_rfl)).2
      ·
        intro h
        refine run_skip ?_
        refine cn_then ?_
        refine run_seq ?_
        refine run_reg hm hT hC (ref24_Check_g8 (ref24_Check_K d) y6) h ?_
        intro y8 h
        refine cn_then ?_
        refine run_seq ?_
        refine run_reg hm hT hC (ref24_Check_g9 (ref24_Check_K d) y8) h ?_
        intro y9 h
        refine cn_then ?_
        refine run_cond (v := y9.2.2) (by kernel_rfl) h ?_ ?_
        ·
          intro h
          refine run_seq ?_
          refine run_reg hm hT hC (ref24_Check_g10 (ref24_Check_K d) y9) h ?_
          intro y10 h
          refine cn_then ?_
          refine run_ret ?_
          refine cn_blk_ret ?_
          refine cn_then_ret ?_
          refine cn_then_ret ?_
          refine cn_blk_ret ?_
          refine cn_then_ret ?_
          cases h
          exact (hend _ (by kernel_rfl)).2
        ·
          intro h
          refine run_skip ?_
          refine cn_blk ?_
          refine cn_then ?_
          refine run_reg hm hT hC (ref24_Check_g5 (ref24_Check_K d) y9) h ?_
          intro y5 h
          exact hn1 _ h
    ·
      intro h
      refine run_exit ?_
      refine cn_then_exit ?_
      refine cn_then_exit ?_
      refine cn_blk_eq ?_
      refine cn_then ?_
      refine run_seq ?_
      refine run_reg hm hT hC (ref24_Check_g11 (ref24_Check_K d) y4) h ?_
      intro y11 h
      refine cn_then ?_
      refine run_ret ?_
      cases h
      exact (hend _ (by kernel_rfl)).2
abbrev ref24_Same_ps : List Pk := [.row RLiiiiiE false, .row RLiiiiiE false]
abbrev ref24_Same_X : Type := DLiiiiiE × DLiiiiiE × Unit
abbrev ref24_Same_R : Type := Bool
def ref24_Same_enc (r : ref24_Same_R) : LV × List Ob := (.bool r, [])
def ref24_Same_sp (F : ref24_Same_X → Option ref24_Same_R) : Go.Tx.Spec := ⟨33, ref24_Same_ps, ref24_Same_R, F, ref24_Same_enc⟩
abbrev ref24_Same_C : Type := Unit
def ref24_Same_K (_d : Nat) : ref24_Same_C := ()
def ref24_Same_tab (C : ref24_Same_C) : List Go.Tx.Spec := []
abbrev ref24_Same_Y0i : Type := List Diiiii × List Diiiii
def ref24_Same_S0i (v : ref24_Same_Y0i) : St := ⟨[(0, .fz Riiiii v.1), (1, .fz Riiiii v.2)], []⟩
def ref24_Same_r0 (C : ref24_Same_C) (v : ref24_Same_Y0i) : Dt ref24_Same_Y0i := (Dt.ret (v.1, v.2))
theorem ref24_Same_g0 (C : ref24_Same_C) (v : ref24_Same_Y0i) : treg tysT (orc (ref24_Same_tab C)) 26 (regO (bodyOf f33) 0) false [(0, (.val Riiiii)), (1, (.val Riiiii))] (ref24_Same_S0i v) some = (ref24_Same_r0 C v).eval fun y => some (ref24_Same_S0i y) := by kernel_rfl
abbrev ref24_Same_Y1 : Type := List Diiiii × List Diiiii × Bool
def ref24_Same_S1 (v : ref24_Same_Y1) : St := ⟨[(0, .fz Riiiii v.1), (1, .fz Riiiii v.2.1), (10, .bool v.2.2)], []⟩
def ref24_Same_r1 (C : ref24_Same_C) (v : ref24_Same_Y0i) : Dt ref24_Same_Y1 := (Dt.ret (v.1, v.2, ((List.length v.1 : Int) != (List.length v.2 : Int))))
theorem ref24_Same_g1 (C : ref24_Same_C) (v : ref24_Same_Y0i) : treg tysT (orc (ref24_Same_tab C)) 26 (regO (bodyOf f33) 1) false [(0, (.val Riiiii)), (1, (.val Riiiii)), (10, .any)] (ref24_Same_S0i v) some = (ref24_Same_r1 C v).eval fun y => some (ref24_Same_S1 y) := by kernel_rfl
abbrev ref24_Same_Y2 : Type := Bool
def ref24_Same_S2 (v : ref24_Same_Y2) : St := ⟨[(4, .bool v)], []⟩
def ref24_Same_r2 (C : ref24_Same_C) (v : ref24_Same_Y1) : Dt ref24_Same_Y2 := (Dt.ret false)
theorem ref24_Same_g2 (C : ref24_Same_C) (v : ref24_Same_Y1) : treg tysT (orc (ref24_Same_tab C)) 26 (regO (bodyOf f33) 2) false [(4, .any)] (ref24_Same_S1 v) some = (ref24_Same_r2 C v).eval fun y => some (ref24_Same_S2 y) := by kernel_rfl
abbrev ref24_Same_Y3 : Type := List Diiiii × List Diiiii × Int
def ref24_Same_S3 (v : ref24_Same_Y3) : St := ⟨[(0, .fz Riiiii v.1), (1, .fz Riiiii v.2.1), (5, .int .i64 v.2.2)], []⟩
def ref24_Same_r3 (C : ref24_Same_C) (v : ref24_Same_Y1) : Dt ref24_Same_Y3 := (Dt.ret (v.1, v.2.1, (0:Int)))
theorem ref24_Same_g3 (C : ref24_Same_C) (v : ref24_Same_Y1) : treg tysT (orc (ref24_Same_tab C)) 26 (regO (bodyOf f33) 3) false [(0, (.val Riiiii)), (1, (.val Riiiii)), (5, .any)] (ref24_Same_S1 v) some = (ref24_Same_r3 C v).eval fun y => some (ref24_Same_S3 y) := by kernel_rfl
abbrev ref24_Same_Y4 : Type := List Diiiii × List Diiiii × Int × Bool
def ref24_Same_S4 (v : ref24_Same_Y4) : St := ⟨[(0, .fz Riiiii v.1), (1, .fz Riiiii v.2.1), (5, .int .i64 v.2.2.1), (14, .bool v.2.2.2)], []⟩
def ref24_Same_r4 (C : ref24_Same_C) (v : ref24_Same_Y3) : Dt ref24_Same_Y4 := (Dt.ret (v.1, v.2.1, v.2.2, (decide (v.2.2 < (List.length v.1 : Int)))))
theorem ref24_Same_g4 (C : ref24_Same_C) (v : ref24_Same_Y3) : treg tysT (orc (ref24_Same_tab C)) 26 (regO (bodyOf f33) 4) false [(0, (.val Riiiii)), (1, (.val Riiiii)), (5, .any), (14, .any)] (ref24_Same_S3 v) some = (ref24_Same_r4 C v).eval fun y => some (ref24_Same_S4 y) := by kernel_rfl
abbrev ref24_Same_Y6 : Type := List Diiiii × List Diiiii × Int × Bool
def ref24_Same_S6 (v : ref24_Same_Y6) : St := ⟨[(0, .fz Riiiii v.1), (1, .fz Riiiii v.2.1), (5, .int .i64 v.2.2.1), (25, .bool v.2.2.2)], []⟩
def ref24_Same_r6 (C : ref24_Same_C) (v : ref24_Same_Y4) : Dt ref24_Same_Y6 := (Dt.ite (inB v.2.2.1 (List.length v.1)) (Dt.ite (inB v.2.2.1 (List.length v.2.1)) (Dt.ret (v.1, v.2.1, v.2.2.1, (!(((elt ziiiii v.1 (v.2.2.1).toNat).1 == (elt ziiiii v.2.1 (v.2.2.1).toNat).1) && (((elt ziiiii v.1 (v.2.2.1).toNat).2.1 == (elt ziiiii v.2.1 (v.2.2.1).toNat).2.1) && (((elt ziiiii v.1 (v.2.2.1).toNat).2.2.1 == (elt ziiiii v.2.1 (v.2.2.1).toNat).2.2.1) && (((elt ziiiii v.1 (v.2.2.1).toNat).2.2.2.1 == (elt ziiiii v.2.1 (v.2.2.1).toNat).2.2.2.1) && (((elt ziiiii v.1 (v.2.2.1).toNat).2.2.2.2.1 == (elt ziiiii v.2.1 (v.2.2.1).toNat).2.2.2.2.1) && true)))))))) Dt.fail) Dt.fail)
theorem ref24_Same_g6 (C : ref24_Same_C) (v : ref24_Same_Y4) : treg tysT (orc (ref24_Same_tab C)) 26 (regO (bodyOf f33) 6) true [(0, (.val Riiiii)), (1, (.val Riiiii)), (5, .any), (25, .any)] (ref24_Same_S4 v) some = (ref24_Same_r6 C v).eval fun y => some (ref24_Same_S6 y) := by kernel_rfl
def ref24_Same_r7 (C : ref24_Same_C) (v : ref24_Same_Y6) : Dt ref24_Same_Y2 := (Dt.ret false)
theorem ref24_Same_g7 (C : ref24_Same_C) (v : ref24_Same_Y6) : treg tysT (orc (ref24_Same_tab C)) 26 (regO (bodyOf f33) 7) false [(4, .any)] (ref24_Same_S6 v) some = (ref24_Same_r7 C v).eval fun y => some (ref24_Same_S2 y) := by kernel_rfl
def ref24_Same_r5 (C : ref24_Same_C) (v : ref24_Same_Y6) : Dt ref24_Same_Y3 := (Dt.ret (v.1, v.2.1, (IntKind.wrap .i64 (v.2.2.1 + (1:Int)))))
theorem ref24_Same_g5 (C : ref24_Same_C) (v : ref24_Same_Y6) : treg tysT (orc (ref24_Same_tab C)) 26 (regO (bodyOf f33) 5) false [(0, (.val Riiiii)), (1, (.val Riiiii)), (5, .any)] (ref24_Same_S6 v) some = (ref24_Same_r5 C v).eval fun y => some (ref24_Same_S3 y) := by kernel_rfl
def ref24_Same_r8 (C : ref24_Same_C) (v : ref24_Same_Y4) : Dt ref24_Same_Y2 := (Dt.ret true)
theorem ref24_Same_g8 (C : ref24_Same_C) (v : ref24_Same_Y4) : treg tysT (orc (ref24_Same_tab C)) 26 (regO (bodyOf f33) 8) false [(4, .any)] (ref24_Same_S4 v) some = (ref24_Same_r8 C v).eval fun y => some (ref24_Same_S2 y) := by kernel_rfl
def ref24_Same_L1 (d : Nat) (self1 : (List Diiiii × List Diiiii × Int) → Option ref24_Same_R) (x1 : List Diiiii × List Diiiii × Int) : Option ref24_Same_R :=
  (ref24_Same_r4 (ref24_Same_K d) x1).eval fun y4 =>
  bif y4.2.2.2 then ((ref24_Same_r6 (ref24_Same_K d) y4).eval fun y6 =>
  bif y6.2.2.2 then ((ref24_Same_r7 (ref24_Same_K d) y6).eval fun y7 =>
  some y7) else ((ref24_Same_r5 (ref24_Same_K d) y6).eval fun y5 =>
  self1 y5)) else ((ref24_Same_r8 (ref24_Same_K d) y4).eval fun y8 =>
  some y8)
def F_ref24_Same (d : Nat) (x : ref24_Same_X) : Option ref24_Same_R :=
  (ref24_Same_r0 (ref24_Same_K d) (x.1.1, x.2.1.1)).eval fun y0 =>
  (ref24_Same_r1 (ref24_Same_K d) y0).eval fun y1 =>
  bif y1.2.2 then ((ref24_Same_r2 (ref24_Same_K d) y1).eval fun y2 =>
  some y2) else ((ref24_Same_r3 (ref24_Same_K d) y1).eval fun y3 =>
  iter (ref24_Same_L1 d ) d y3)
theorem ref24_Same_cok (d : Nat) : COK prog (ref24_Same_sp (F_ref24_Same d)) := by
  have hm : prog.follows .mixedOrders = true := mixed
  have hT := tys
  have hC0 : OrcOK prog (orc (ref24_Same_tab (ref24_Same_K d))) := orc_ok (by
    intro S hS
    simp only [ref24_Same_tab, List.mem_cons, List.not_mem_nil, or_false] at hS
    all_goals first | cases hS | exact hS.elim)
  have hC : OrcOK prog (orc (ref24_Same_tab (ref24_Same_K d))) := hC0
  refine cok_of (c := bodyOf f33) (fn := f33) hT (by kernel_rfl) (by kernel_rfl) (by decide) fun x r h w0 φ0 Q hend => ?_
  replace h : F_ref24_Same d x = some r := h
  unfold F_ref24_Same at h
  show Run prog w0 φ0 26 (bodyOf f33) ⟨[(0, .fz Riiiii x.1.1), (1, .fz Riiiii x.2.1.1)], []⟩ Q
  refine run_seq ?_
  refine run_reg hm hT hC (ref24_Same_g0 (ref24_Same_K d) (x.1.1, x.2.1.1)) h ?_
  intro y0 h
  refine cn_then ?_
  refine run_seq ?_
  refine run_seq ?_
  refine run_reg hm hT hC (ref24_Same_g1 (ref24_Same_K d) y0) h ?_
  intro y1 h
  refine cn_then ?_
  refine run_cond (v := y1.2.2) (by kernel_rfl) h ?_ ?_
  ·
    intro h
    refine run_seq ?_
    refine run_reg hm hT hC (ref24_Same_g2 (ref24_Same_K d) y1) h ?_
    intro y2 h
    refine cn_then ?_
    refine run_ret ?_
    refine cn_then_ret ?_
    cases h
    exact (hend _ (by kernel_rfl)).2
  ·
    intro h
    refine run_skip ?_
    refine cn_then ?_
    refine run_seq ?_
    refine run_seq ?_
    refine run_reg hm hT hC (ref24_Same_g3 (ref24_Same_K d) y1) h ?_
    intro y3 h
    refine cn_then ?_
    refine run_block ?_
    refine run_loop (G := iter (ref24_Same_L1 d )) (S := (fun x1 => ⟨[(0, .fz Riiiii x1.1), (1, .fz Riiiii x1.2.1), (5, .int .i64 x1.2.2)], []⟩ : List Diiiii × List Diiiii × Int → St)) (fun _ => rfl) ?_ d _ h
    intro n1 x1 h K1 hn1
    replace h : ref24_Same_L1 d  (iter (ref24_Same_L1 d ) n1) x1 = some r := h
    generalize iter (ref24_Same_L1 d ) n1 = self1 at h hn1
    unfold ref24_Same_L1 at h
    refine run_seq ?_
    refine run_seq ?_
    refine run_reg hm hT hC (ref24_Same_g4 (ref24_Same_K d) x1) h ?_
    intro y4 h
    refine cn_then ?_
    refine run_cond (v := y4.2.2.2) (by kernel_rfl) h ?_ ?_
    ·
      intro h
      refine run_skip ?_
      refine cn_then ?_
      refine run_seq ?_
      refine run_block ?_
      refine run_seq ?_
      refine run_reg hm hT hC (ref24_Same_g6 (ref24_Same_K d) y4) h ?_
      intro y6 h
      refine cn_then ?_
      refine run_cond (v := y6.2.2.2) (by kernel_rfl) h ?_ ?_
      ·
        intro h
        refine run_seq ?_
        refine run_reg hm hT hC (ref24_Same_g7 (ref24_Same_K d) y6) h ?_
        intro y7 h
        refine cn_then ?_
        refine run_ret ?_
        refine cn_blk_ret ?_
        refine cn_then_ret ?_
        refine cn_then_ret ?_
        refine cn_blk_ret ?_
        refine cn_then_ret ?_
        cases h
        exact (hend _ (by kernel_rfl)).2
      ·
        intro h
        refine run_skip ?_
        refine cn_blk ?_
        refine cn_then ?_
        refine run_reg hm hT hC (ref24_Same_g5 (ref24_Same_K d) y6) h ?_
        intro y5 h
        exact hn1 _ h
    ·
      intro h
      refine run_exit ?_
      refine cn_then_exit ?_
      refine cn_then_exit ?_
      refine cn_blk_eq ?_
      refine cn_then ?_
      refine run_seq ?_
      refine run_reg hm hT hC (ref24_Same_g8 (ref24_Same_K d) y4) h ?_
      intro y8 h
      refine cn_then ?_
      refine run_ret ?_
      cases h
      exact (hend _ (by kernel_rfl)).2
end Go.Proofs.Ytdpnndpbbdhnmaa

namespace Go.Proofs.Ytdpnndpbbdhnmaa
open Go Go.Tx Go.Proofs.Try
set_option maxRecDepth 100000
set_option maxHeartbeats 0
abbrev law24_RaceReigns_ps : List Pk := [.row RLiiiE true, .row Rii true, .row Rii true, .row RLiiiiiE false]
abbrev law24_RaceReigns_X : Type := DLiiiE × Dii × Dii × DLiiiiiE × Unit
abbrev law24_RaceReigns_R : Type := Bool
def law24_RaceReigns_enc (r : law24_RaceReigns_R) : LV × List Ob := (.bool r, [])
def law24_RaceReigns_sp (F : law24_RaceReigns_X → Option law24_RaceReigns_R) : Go.Tx.Spec := ⟨7, law24_RaceReigns_ps, law24_RaceReigns_R, F, law24_RaceReigns_enc⟩
abbrev law24_RaceReigns_C : Type := (ref03_Great_X → Option ref03_Great_R) × (race_Reigns_X → Option race_Reigns_R) × (ref24_Reigns_X → Option ref24_Reigns_R) × (race_Laps_X → Option race_Laps_R) × (ref24_Laps_X → Option ref24_Laps_R) × (ref24_Same_X → Option ref24_Same_R) × (race_Check_X → Option race_Check_R) × (ref24_Check_X → Option ref24_Check_R) × Unit
def law24_RaceReigns_K (d : Nat) : law24_RaceReigns_C := (F_ref03_Great d, F_race_Reigns d, F_ref24_Reigns d, F_race_Laps d, F_ref24_Laps d, F_ref24_Same d, F_race_Check d, F_ref24_Check d, ())
def law24_RaceReigns_tab (C : law24_RaceReigns_C) : List Go.Tx.Spec := [ref03_Great_sp C.1, race_Reigns_sp C.2.1, ref24_Reigns_sp C.2.2.1, race_Laps_sp C.2.2.2.1, ref24_Laps_sp C.2.2.2.2.1, ref24_Same_sp C.2.2.2.2.2.1, race_Check_sp C.2.2.2.2.2.2.1, ref24_Check_sp C.2.2.2.2.2.2.2.1]
abbrev law24_RaceReigns_Y0i : Type := List Diii × Int × Int × Int × Int × List Diiiii
def law24_RaceReigns_S0i (v : law24_RaceReigns_Y0i) : St := ⟨[(0, .agg [.fz Riii v.1]), (1, .agg [.int .i64 v.2.1, .int .i64 v.2.2.1]), (2, .agg [.int .i64 v.2.2.2.1, .int .i64 v.2.2.2.2.1]), (3, .fz Riiiii v.2.2.2.2.2)], []⟩
abbrev law24_RaceReigns_Y0 : Type := List Diiiii × List Diii × Int × Int × Int × Int
def law24_RaceReigns_S0 (v : law24_RaceReigns_Y0) : St := ⟨[(3, .fz Riiiii v.1), (4, .ptr 0 0), (5, .ptr 1 0), (6, .ptr 2 0)], [.cells [.fz Riii v.2.1], .cells [.int .i64 v.2.2.1, .int .i64 v.2.2.2.1], .cells [.int .i64 v.2.2.2.2.1, .int .i64 v.2.2.2.2.2]]⟩
def law24_RaceReigns_r0 (C : law24_RaceReigns_C) (v : law24_RaceReigns_Y0i) : Dt law24_RaceReigns_Y0 := (Dt.ret (v.2.2.2.2.2, v.1, v.2.1, v.2.2.1, v.2.2.2.1, v.2.2.2.2.1))
theorem law24_RaceReigns_g0 (C : law24_RaceReigns_C) (v : law24_RaceReigns_Y0i) : treg tysT (orc (law24_RaceReigns_tab C)) 87 (regO (bodyOf f7) 0) false [(3, (.val Riiiii)), (4, (.box [.val Riii])), (5, .any), (6, .any)] (law24_RaceReigns_S0i v) some = (law24_RaceReigns_r0 C v).eval fun y => some (law24_RaceReigns_S0 y) := by kernel_rfl
abbrev law24_RaceReigns_Y1 : Type := List Diiiii × Bool × List Diii × Int × Int × Int × Int
def law24_RaceReigns_S1 (v : law24_RaceReigns_Y1) : St := ⟨[(3, .fz Riiiii v.1), (4, .ptr 0 0), (5, .ptr 1 0), (6, .ptr 2 0), (33, .bool v.2.1)], [.cells [.fz Riii v.2.2.1], .cells [.int .i64 v.2.2.2.1, .int .i64 v.2.2.2.2.1], .cells [.int .i64 v.2.2.2.2.2.1, .int .i64 v.2.2.2.2.2.2]]⟩
def law24_RaceReigns_r1 (C : law24_RaceReigns_C) (v : law24_RaceReigns_Y0) : Dt law24_RaceReigns_Y1 := (Dt.bnd (C.1 ((v.2.1, ()), ())) fun r1 => (Dt.ite r1 (Dt.ret (v.1, true, v.2.1, v.2.2.1, v.2.2.2.1, v.2.2.2.2.1, v.2.2.2.2.2)) (Dt.ite (decide ((List.length v.1 : Int) > (40:Int))) (Dt.ite (decide ((List.length v.1 : Int) ≤ (300:Int))) (Dt.ret (v.1, true, v.2.1, v.2.2.1, v.2.2.2.1, v.2.2.2.2.1, v.2.2.2.2.2)) (Dt.ret (v.1, (decide ((List.length v.1 : Int) > (310:Int))), v.2.1, v.2.2.1, v.2.2.2.1, v.2.2.2.2.1, v.2.2.2.2.2))) (Dt.ret (v.1, (decide ((List.length v.1 : Int) > (310:Int))), v.2.1, v.2.2.1, v.2.2.2.1, v.2.2.2.2.1, v.2.2.2.2.2)))))
theorem law24_RaceReigns_g1 (C : law24_RaceReigns_C) (v : law24_RaceReigns_Y0) : treg tysT (orc (law24_RaceReigns_tab C)) 87 (regO (bodyOf f7) 1) false [(3, (.val Riiiii)), (4, (.box [.val Riii])), (5, .any), (6, .any), (33, .any)] (law24_RaceReigns_S0 v) some = (law24_RaceReigns_r1 C v).eval fun y => some (law24_RaceReigns_S1 y) := by kernel_rfl
abbrev law24_RaceReigns_Y2 : Type := Bool
def law24_RaceReigns_S2 (v : law24_RaceReigns_Y2) : St := ⟨[(8, .bool v)], []⟩
def law24_RaceReigns_r2 (C : law24_RaceReigns_C) (v : law24_RaceReigns_Y1) : Dt law24_RaceReigns_Y2 := (Dt.ret true)
theorem law24_RaceReigns_g2 (C : law24_RaceReigns_C) (v : law24_RaceReigns_Y1) : treg tysT (orc (law24_RaceReigns_tab C)) 87 (regO (bodyOf f7) 2) false [(8, .any)] (law24_RaceReigns_S1 v) some = (law24_RaceReigns_r2 C v).eval fun y => some (law24_RaceReigns_S2 y) := by kernel_rfl
abbrev law24_RaceReigns_Y3 : Type := List Diiiii × Int × List Diii × Int × Int × Int × Int × List Diiiii
def law24_RaceReigns_S3 (v : law24_RaceReigns_Y3) : St := ⟨[(3, .fz Riiiii v.1), (4, .ptr 0 0), (5, .ptr 1 0), (6, .ptr 2 0), (9, .rs 3), (10, .int .i64 v.2.1)], [.cells [.fz Riii v.2.2.1], .cells [.int .i64 v.2.2.2.1, .int .i64 v.2.2.2.2.1], .cells [.int .i64 v.2.2.2.2.2.1, .int .i64 v.2.2.2.2.2.2.1], .rows Riiiii v.2.2.2.2.2.2.2]⟩
def law24_RaceReigns_r3 (C : law24_RaceReigns_C) (v : law24_RaceReigns_Y1) : Dt law24_RaceReigns_Y3 := (Dt.bnd (C.2.1 ((v.2.2.1, ()), (v.2.2.2.1, v.2.2.2.2.1, ()), (v.2.2.2.2.2.1, v.2.2.2.2.2.2, ()), ())) fun r1 => (Dt.ret (v.1, r1.2, v.2.2.1, v.2.2.2.1, v.2.2.2.2.1, v.2.2.2.2.2.1, v.2.2.2.2.2.2, r1.1)))
theorem law24_RaceReigns_g3 (C : law24_RaceReigns_C) (v : law24_RaceReigns_Y1) : treg tysT (orc (law24_RaceReigns_tab C)) 87 (regO (bodyOf f7) 3) false [(3, (.val Riiiii)), (4, (.box [.val Riii])), (5, .any), (6, .any), (9, (.own Riiiii)), (10, .any)] (law24_RaceReigns_S1 v) some = (law24_RaceReigns_r3 C v).eval fun y => some (law24_RaceReigns_S3 y) := by kernel_rfl
abbrev law24_RaceReigns_Y4 : Type := List Diiiii × Int × Int × List Diii × Int × Int × Int × Int × List Diiiii × List Diiiii
def law24_RaceReigns_S4 (v : law24_RaceReigns_Y4) : St := ⟨[(3, .fz Riiiii v.1), (4, .ptr 0 0), (5, .ptr 1 0), (6, .ptr 2 0), (9, .rs 3), (10, .int .i64 v.2.1), (11, .rs 4), (12, .int .i64 v.2.2.1)], [.cells [.fz Riii v.2.2.2.1], .cells [.int .i64 v.2.2.2.2.1, .int .i64 v.2.2.2.2.2.1], .cells [.int .i64 v.2.2.2.2.2.2.1, .int .i64 v.2.2.2.2.2.2.2.1], .rows Riiiii v.2.2.2.2.2.2.2.2.1, .rows Riiiii v.2.2.2.2.2.2.2.2.2]⟩
def law24_RaceReigns_r4 (C : law24_RaceReigns_C) (v : law24_RaceReigns_Y3) : Dt law24_RaceReigns_Y4 := (Dt.bnd (C.2.2.1 ((v.2.2.1, ()), (v.2.2.2.1, v.2.2.2.2.1, ()), (v.2.2.2.2.2.1, v.2.2.2.2.2.2.1, ()), ())) fun r1 => (Dt.ret (v.1, v.2.1, r1.2, v.2.2.1, v.2.2.2.1, v.2.2.2.2.1, v.2.2.2.2.2.1, v.2.2.2.2.2.2.1, v.2.2.2.2.2.2.2, r1.1)))
theorem law24_RaceReigns_g4 (C : law24_RaceReigns_C) (v : law24_RaceReigns_Y3) : treg tysT (orc (law24_RaceReigns_tab C)) 87 (regO (bodyOf f7) 4) false [(3, (.val Riiiii)), (4, (.box [.val Riii])), (5, .any), (6, .any), (9, (.own Riiiii)), (10, .any), (11, (.own Riiiii)), (12, .any)] (law24_RaceReigns_S3 v) some = (law24_RaceReigns_r4 C v).eval fun y => some (law24_RaceReigns_S4 y) := by kernel_rfl
abbrev law24_RaceReigns_Y5 : Type := List Diiiii × Int × Int × Int × Int × List Diii × Int × Int × Int × Int × List Diiiii × List Diiiii
def law24_RaceReigns_S5 (v : law24_RaceReigns_Y5) : St := ⟨[(3, .fz Riiiii v.1), (4, .ptr 0 0), (5, .ptr 1 0), (6, .ptr 2 0), (9, .rs 3), (10, .int .i64 v.2.1), (11, .rs 4), (12, .int .i64 v.2.2.1), (13, .int .i64 v.2.2.2.1), (14, .int .i64 v.2.2.2.2.1)], [.cells [.fz Riii v.2.2.2.2.2.1], .cells [.int .i64 v.2.2.2.2.2.2.1, .int .i64 v.2.2.2.2.2.2.2.1], .cells [.int .i64 v.2.2.2.2.2.2.2.2.1, .int .i64 v.2.2.2.2.2.2.2.2.2.1], .rows Riiiii v.2.2.2.2.2.2.2.2.2.2.1, .rows Riiiii v.2.2.2.2.2.2.2.2.2.2.2]⟩
def law24_RaceReigns_r5 (C : law24_RaceReigns_C) (v : law24_RaceReigns_Y4) : Dt law24_RaceReigns_Y5 := (Dt.bnd (C.2.2.2.1 ((v.2.2.2.1, ()), (v.2.2.2.2.1, v.2.2.2.2.2.1, ()), (v.2.2.2.2.2.2.1, v.2.2.2.2.2.2.2.1, ()), ())) fun r1 => (Dt.ret (v.1, v.2.1, v.2.2.1, r1.1, r1.2, v.2.2.2.1, v.2.2.2.2.1, v.2.2.2.2.2.1, v.2.2.2.2.2.2.1, v.2.2.2.2.2.2.2.1, v.2.2.2.2.2.2.2.2.1, v.2.2.2.2.2.2.2.2.2)))
theorem law24_RaceReigns_g5 (C : law24_RaceReigns_C) (v : law24_RaceReigns_Y4) : treg tysT (orc (law24_RaceReigns_tab C)) 87 (regO (bodyOf f7) 5) false [(3, (.val Riiiii)), (4, (.box [.val Riii])), (5, .any), (6, .any), (9, (.own Riiiii)), (10, .any), (11, (.own Riiiii)), (12, .any), (13, .any), (14, .any)] (law24_RaceReigns_S4 v) some = (law24_RaceReigns_r5 C v).eval fun y => some (law24_RaceReigns_S5 y) := by kernel_rfl
abbrev law24_RaceReigns_Y6 : Type := List Diiiii × Int × Int × Int × Int × Int × Int × List Diiiii × List Diiiii
def law24_RaceReigns_S6 (v : law24_RaceReigns_Y6) : St := ⟨[(3, .fz Riiiii v.1), (9, .rs 0), (10, .int .i64 v.2.1), (11, .rs 1), (12, .int .i64 v.2.2.1), (13, .int .i64 v.2.2.2.1), (14, .int .i64 v.2.2.2.2.1), (15, .int .i64 v.2.2.2.2.2.1), (16, .int .i64 v.2.2.2.2.2.2.1)], [.rows Riiiii v.2.2.2.2.2.2.2.1, .rows Riiiii v.2.2.2.2.2.2.2.2]⟩
def law24_RaceReigns_r6 (C : law24_RaceReigns_C) (v : law24_RaceReigns_Y5) : Dt law24_RaceReigns_Y6 := (Dt.bnd (C.2.2.2.2.1 ((v.2.2.2.2.2.1, ()), (v.2.2.2.2.2.2.1, v.2.2.2.2.2.2.2.1, ()), (v.2.2.2.2.2.2.2.2.1, v.2.2.2.2.2.2.2.2.2.1, ()), ())) fun r1 => (Dt.ret (v.1, v.2.1, v.2.2.1, v.2.2.2.1, v.2.2.2.2.1, r1.1, r1.2, v.2.2.2.2.2.2.2.2.2.2.1, v.2.2.2.2.2.2.2.2.2.2.2)))
theorem law24_RaceReigns_g6 (C : law24_RaceReigns_C) (v : law24_RaceReigns_Y5) : treg tysT (orc (law24_RaceReigns_tab C)) 87 (regO (bodyOf f7) 6) false [(3, (.val Riiiii)), (9, (.own Riiiii)), (10, .any), (11, (.own Riiiii)), (12, .any), (13, .any), (14, .any), (15, .any), (16, .any)] (law24_RaceReigns_S5 v) some = (law24_RaceReigns_r6 C v).eval fun y => some (law24_RaceReigns_S6 y) := by kernel_rfl
def law24_RaceReigns_r7 (C : law24_RaceReigns_C) (v : law24_RaceReigns_Y6) : Dt law24_RaceReigns_Y2 := (Dt.bnd (C.2.2.2.2.2.1 ((v.2.2.2.2.2.2.2.1, ()), (v.2.2.2.2.2.2.2.2, ()), ())) fun r1 => (Dt.ite r1 (Dt.ite (v.2.1 == v.2.2.1) (Dt.ite (v.2.2.2.1 == v.2.2.2.2.2.1) (Dt.ite (v.2.2.2.2.1 == v.2.2.2.2.2.2.1) (Dt.bnd (C.2.2.2.2.2.2.1 ((v.1, ()), ())) fun r2 => (Dt.bnd (C.2.2.2.2.2.2.2.1 ((v.1, ()), ())) fun r3 => (Dt.ret (r2 == r3)))) (Dt.ret false)) (Dt.ret false)) (Dt.ret false)) (Dt.ret false)))
theorem law24_RaceReigns_g7 (C : law24_RaceReigns_C) (v : law24_RaceReigns_Y6) : treg tysT (orc (law24_RaceReigns_tab C)) 87 (regO (bodyOf f7) 7) false [(8, .any)] (law24_RaceReigns_S6 v) some = (law24_RaceReigns_r7 C v).eval fun y => some (law24_RaceReigns_S2 y) := by kernel_rfl
def F_law24_RaceReigns (d : Nat) (x : law24_RaceReigns_X) : Option law24_RaceReigns_R :=
  (law24_RaceReigns_r0 (law24_RaceReigns_K d) (x.1.1, x.2.1.1, x.2.1.2.1, x.2.2.1.1, x.2.2.1.2.1, x.2.2.2.1.1)).eval fun y0 =>
  (law24_RaceReigns_r1 (law24_RaceReigns_K d) y0).eval fun y1 =>
  bif y1.2.1 then ((law24_RaceReigns_r2 (law24_RaceReigns_K d) y1).eval fun y2 =>
  some y2) else ((law24_RaceReigns_r3 (law24_RaceReigns_K d) y1).eval fun y3 =>
  (law24_RaceReigns_r4 (law24_RaceReigns_K d) y3).eval fun y4 =>
  (law24_RaceReigns_r5 (law24_RaceReigns_K d) y4).eval fun y5 =>
  (law24_RaceReigns_r6 (law24_RaceReigns_K d) y5).eval fun y6 =>
  (law24_RaceReigns_r7 (law24_RaceReigns_K d) y6).eval fun y7 =>
  some y7)
theorem law24_RaceReigns_cok (d : Nat) : COK prog (law24_RaceReigns_sp (F_law24_RaceReigns d)) := by
  have hm : prog.follows .mixedOrders = true := mixed
  have hT := tys
  have hC0 : OrcOK prog (orc (law24_RaceReigns_tab (law24_RaceReigns_K d))) := orc_ok (by
    intro S hS
    simp only [law24_RaceReigns_tab, List.mem_cons, List.not_mem_nil, or_false] at hS
    rcases hS with rfl | rfl | rfl | rfl | rfl | rfl | rfl | rfl
    · exact ref03_Great_cok d
    · exact race_Reigns_cok d
    · exact ref24_Reigns_cok d
    · exact race_Laps_cok d
    · exact ref24_Laps_cok d
    · exact ref24_Same_cok d
    · exact race_Check_cok d
    · exact ref24_Check_cok d)
  have hC : OrcOK prog (orc (law24_RaceReigns_tab (law24_RaceReigns_K d))) := hC0
  refine cok_of (c := bodyOf f7) (fn := f7) hT (by kernel_rfl) (by kernel_rfl) (by decide) fun x r h w0 φ0 Q hend => ?_
  replace h : F_law24_RaceReigns d x = some r := h
  unfold F_law24_RaceReigns at h
  show Run prog w0 φ0 87 (bodyOf f7) ⟨[(0, .agg [.fz Riii x.1.1]), (1, .agg [.int .i64 x.2.1.1, .int .i64 x.2.1.2.1]), (2, .agg [.int .i64 x.2.2.1.1, .int .i64 x.2.2.1.2.1]), (3, .fz Riiiii x.2.2.2.1.1)], []⟩ Q
  refine run_seq ?_
  refine run_reg hm hT hC (law24_RaceReigns_g0 (law24_RaceReigns_K d) (x.1.1, x.2.1.1, x.2.1.2.1, x.2.2.1.1, x.2.2.1.2.1, x.2.2.2.1.1)) h ?_
  intro y0 h
  refine cn_then ?_
  refine run_seq ?_
  refine run_seq ?_
  refine run_reg hm hT hC (law24_RaceReigns_g1 (law24_RaceReigns_K d) y0) h ?_
  intro y1 h
  refine cn_then ?_
  refine run_cond (v := y1.2.1) (by kernel_rfl) h ?_ ?_
  ·
    intro h
    refine run_seq ?_
    refine run_reg hm hT hC (law24_RaceReigns_g2 (law24_RaceReigns_K d) y1) h ?_
    intro y2 h
    refine cn_then ?_
    refine run_ret ?_
    refine cn_then_ret ?_
    cases h
    exact (hend _ (by kernel_rfl)).2
  ·
    intro h
    refine run_skip ?_
    refine cn_then ?_
    refine run_seq ?_
    refine run_reg hm hT hC (law24_RaceReigns_g3 (law24_RaceReigns_K d) y1) h ?_
    intro y3 h
    refine cn_then ?_
    refine run_seq ?_
    refine run_reg hm hT hC (law24_RaceReigns_g4 (law24_RaceReigns_K d) y3) h ?_
    intro y4 h
    refine cn_then ?_
    refine run_seq ?_
    refine run_reg hm hT hC (law24_RaceReigns_g5 (law24_RaceReigns_K d) y4) h ?_
    intro y5 h
    refine cn_then ?_
    refine run_seq ?_
    refine run_reg hm hT hC (law24_RaceReigns_g6 (law24_RaceReigns_K d) y5) h ?_
    intro y6 h
    refine cn_then ?_
    refine run_seq ?_
    refine run_reg hm hT hC (law24_RaceReigns_g7 (law24_RaceReigns_K d) y6) h ?_
    intro y7 h
    refine cn_then ?_
    refine run_ret ?_
    cases h
    exact (hend _ (by kernel_rfl)).2
end Go.Proofs.Ytdpnndpbbdhnmaa
