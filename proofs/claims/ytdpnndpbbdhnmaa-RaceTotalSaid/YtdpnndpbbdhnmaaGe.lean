/- Walks of the references; the orders agree; examples. -/
import Derived.Test.YtdpnndpbbdhnmaaGd
set_option linter.unusedSimpArgs false
set_option linter.unusedVariables false
namespace Go.Proofs.Ytdpnndpbbdhnmaa
open Go Go.Tx Go.Proofs.Try
set_option maxRecDepth 100000
set_option maxHeartbeats 0
abbrev crest_compare_ps : List Pk := [.row Rii true, .row Rii true]
abbrev crest_compare_X : Type := Dii × Dii × Unit
abbrev crest_compare_R : Type := Int
def crest_compare_enc (r : crest_compare_R) : LV × List Ob := (.int .i64 r, [])
def crest_compare_sp (F : crest_compare_X → Option crest_compare_R) : Go.Tx.Spec := ⟨47, crest_compare_ps, crest_compare_R, F, crest_compare_enc⟩
abbrev crest_compare_C : Type := (ratio_Cmp_X → Option ratio_Cmp_R) × Unit
def crest_compare_K (d : Nat) : crest_compare_C := (F_ratio_Cmp d, ())
def crest_compare_tab (C : crest_compare_C) : List Go.Tx.Spec := [ratio_Cmp_sp C.1]
abbrev crest_compare_Y0i : Type := Int × Int × Int × Int
def crest_compare_S0i (v : crest_compare_Y0i) : St := ⟨[(0, .agg [.int .i64 v.1, .int .i64 v.2.1]), (1, .agg [.int .i64 v.2.2.1, .int .i64 v.2.2.2])], []⟩
abbrev crest_compare_Y0 : Type := Int × Int × Int × Int
def crest_compare_S0 (v : crest_compare_Y0) : St := ⟨[(2, .ptr 0 0), (3, .ptr 1 0)], [.cells [.int .i64 v.1, .int .i64 v.2.1], .cells [.int .i64 v.2.2.1, .int .i64 v.2.2.2]]⟩
def crest_compare_r0 (C : crest_compare_C) (v : crest_compare_Y0i) : Dt crest_compare_Y0 := (Dt.ret (v.1, v.2.1, v.2.2.1, v.2.2.2))
theorem crest_compare_g0 (C : crest_compare_C) (v : crest_compare_Y0i) : treg tysT (orc (crest_compare_tab C)) 14 (regO (bodyOf f47) 0) false [(2, .any), (3, .any)] (crest_compare_S0i v) some = (crest_compare_r0 C v).eval fun y => some (crest_compare_S0 y) := by kernel_rfl
abbrev crest_compare_Y1 : Type := Int
def crest_compare_S1 (v : crest_compare_Y1) : St := ⟨[(5, .int .i64 v)], []⟩
def crest_compare_r1 (C : crest_compare_C) (v : crest_compare_Y0) : Dt crest_compare_Y1 := (Dt.bnd (C.1 ((v.1, v.2.1, ()), (v.2.2.1, v.2.2.2, ()), ())) fun r1 => (Dt.ret r1.1))
theorem crest_compare_g1 (C : crest_compare_C) (v : crest_compare_Y0) : treg tysT (orc (crest_compare_tab C)) 14 (regO (bodyOf f47) 1) false [(5, .any)] (crest_compare_S0 v) some = (crest_compare_r1 C v).eval fun y => some (crest_compare_S1 y) := by kernel_rfl
abbrev crest_compare_Y2 : Type := Int
def crest_compare_S2 (v : crest_compare_Y2) : St := ⟨[(4, .int .i64 v)], []⟩
def crest_compare_r2 (C : crest_compare_C) (v : crest_compare_Y1) : Dt crest_compare_Y2 := (Dt.ret v)
theorem crest_compare_g2 (C : crest_compare_C) (v : crest_compare_Y1) : treg tysT (orc (crest_compare_tab C)) 14 (regO (bodyOf f47) 2) false [(4, .any)] (crest_compare_S1 v) some = (crest_compare_r2 C v).eval fun y => some (crest_compare_S2 y) := by kernel_rfl
def F_crest_compare (d : Nat) (x : crest_compare_X) : Option crest_compare_R :=
  (crest_compare_r0 (crest_compare_K d) (x.1.1, x.1.2.1, x.2.1.1, x.2.1.2.1)).eval fun y0 =>
  (crest_compare_r1 (crest_compare_K d) y0).eval fun y1 =>
  (crest_compare_r2 (crest_compare_K d) y1).eval fun y2 =>
  some y2
theorem crest_compare_cok (d : Nat) : COK prog (crest_compare_sp (F_crest_compare d)) := by
  have hm : prog.follows .mixedOrders = true := mixed
  have hT := tys
  have hC0 : OrcOK prog (orc (crest_compare_tab (crest_compare_K d))) := orc_ok (by
    intro S hS
    simp only [crest_compare_tab, List.mem_cons, List.not_mem_nil, or_false] at hS
    subst hS; exact ratio_Cmp_cok d)
  have hC : OrcOK prog (orc (crest_compare_tab (crest_compare_K d))) := hC0
  refine cok_of (c := bodyOf f47) (fn := f47) hT (by kernel_rfl) (by kernel_rfl) (by decide) fun x r h w0 φ0 Q hend => ?_
  replace h : F_crest_compare d x = some r := h
  unfold F_crest_compare at h
  show Run prog w0 φ0 14 (bodyOf f47) ⟨[(0, .agg [.int .i64 x.1.1, .int .i64 x.1.2.1]), (1, .agg [.int .i64 x.2.1.1, .int .i64 x.2.1.2.1])], []⟩ Q
  refine run_seq ?_
  refine run_reg hm hT hC (crest_compare_g0 (crest_compare_K d) (x.1.1, x.1.2.1, x.2.1.1, x.2.1.2.1)) h ?_
  intro y0 h
  refine cn_then ?_
  refine run_seq ?_
  refine run_reg hm hT hC (crest_compare_g1 (crest_compare_K d) y0) h ?_
  intro y1 h
  refine cn_then ?_
  refine run_seq ?_
  refine run_reg hm hT hC (crest_compare_g2 (crest_compare_K d) y1) h ?_
  intro y2 h
  refine cn_then ?_
  refine run_ret ?_
  cases h
  exact (hend _ (by kernel_rfl)).2
abbrev crest_Of_ps : List Pk := [.row RLiiiE true, .row Rii true]
abbrev crest_Of_X : Type := DLiiiE × Dii × Unit
abbrev crest_Of_R : Type := List Diii × Int
def crest_Of_enc (r : crest_Of_R) : LV × List Ob := (.tup [.rs 0, .int .i64 r.2], [.rows Riii r.1])
def crest_Of_sp (F : crest_Of_X → Option crest_Of_R) : Go.Tx.Spec := ⟨14, crest_Of_ps, crest_Of_R, F, crest_Of_enc⟩
abbrev crest_Of_C : Type := (field_Order_X → Option field_Order_R) × (field_Find_X → Option field_Find_R) × (course_Fails_X → Option course_Fails_R) × (crest_compare_X → Option crest_compare_R) × (course_Ahead_X → Option course_Ahead_R) × Unit
def crest_Of_K (d : Nat) : crest_Of_C := (F_field_Order d, F_field_Find d, F_course_Fails d, F_crest_compare d, F_course_Ahead d, ())
def crest_Of_tab (C : crest_Of_C) : List Go.Tx.Spec := [field_Order_sp C.1, field_Find_sp C.2.1, course_Fails_sp C.2.2.1, crest_compare_sp C.2.2.2.1, course_Ahead_sp C.2.2.2.2.1]
abbrev crest_Of_Y0i : Type := List Diii × Int × Int
def crest_Of_S0i (v : crest_Of_Y0i) : St := ⟨[(0, .agg [.fz Riii v.1]), (1, .agg [.int .i64 v.2.1, .int .i64 v.2.2])], []⟩
abbrev crest_Of_Y0 : Type := List Diii × Int × Int
def crest_Of_S0 (v : crest_Of_Y0) : St := ⟨[(2, .ptr 0 0), (3, .ptr 1 0)], [.cells [.fz Riii v.1], .cells [.int .i64 v.2.1, .int .i64 v.2.2]]⟩
def crest_Of_r0 (C : crest_Of_C) (v : crest_Of_Y0i) : Dt crest_Of_Y0 := (Dt.ret (v.1, v.2.1, v.2.2))
theorem crest_Of_g0 (C : crest_Of_C) (v : crest_Of_Y0i) : treg tysT (orc (crest_Of_tab C)) 101 (regO (bodyOf f14) 0) false [(2, (.box [.val Riii])), (3, .any)] (crest_Of_S0i v) some = (crest_Of_r0 C v).eval fun y => some (crest_Of_S0 y) := by kernel_rfl
abbrev crest_Of_Y1 : Type := Int × List Diii × Int × Int × List Di
def crest_Of_S1 (v : crest_Of_Y1) : St := ⟨[(2, .ptr 0 0), (3, .ptr 1 0), (6, .rs 2), (7, .int .i64 v.1)], [.cells [.fz Riii v.2.1], .cells [.int .i64 v.2.2.1, .int .i64 v.2.2.2.1], .rows Ri v.2.2.2.2]⟩
def crest_Of_r1 (C : crest_Of_C) (v : crest_Of_Y0) : Dt crest_Of_Y1 := (Dt.bnd (C.1 ((v.1, ()), (v.2.1, v.2.2, ()), ())) fun r1 => (Dt.ret (r1.2, v.1, v.2.1, v.2.2, r1.1)))
theorem crest_Of_g1 (C : crest_Of_C) (v : crest_Of_Y0) : treg tysT (orc (crest_Of_tab C)) 101 (regO (bodyOf f14) 1) false [(2, (.box [.val Riii])), (3, .any), (6, (.own Ri)), (7, .any)] (crest_Of_S0 v) some = (crest_Of_r1 C v).eval fun y => some (crest_Of_S1 y) := by kernel_rfl
abbrev crest_Of_Y2 : Type := Int × Bool × List Diii × Int × Int × List Di
def crest_Of_S2 (v : crest_Of_Y2) : St := ⟨[(2, .ptr 0 0), (3, .ptr 1 0), (6, .rs 2), (7, .int .i64 v.1), (28, .bool v.2.1)], [.cells [.fz Riii v.2.2.1], .cells [.int .i64 v.2.2.2.1, .int .i64 v.2.2.2.2.1], .rows Ri v.2.2.2.2.2]⟩
def crest_Of_r2 (C : crest_Of_C) (v : crest_Of_Y1) : Dt crest_Of_Y2 := (Dt.ret (v.1, (v.1 != (0:Int)), v.2.1, v.2.2.1, v.2.2.2.1, v.2.2.2.2))
theorem crest_Of_g2 (C : crest_Of_C) (v : crest_Of_Y1) : treg tysT (orc (crest_Of_tab C)) 101 (regO (bodyOf f14) 2) false [(2, (.box [.val Riii])), (3, .any), (6, (.own Ri)), (7, .any), (28, .any)] (crest_Of_S1 v) some = (crest_Of_r2 C v).eval fun y => some (crest_Of_S2 y) := by kernel_rfl
abbrev crest_Of_Y3 : Type := Int × List Diii
def crest_Of_S3 (v : crest_Of_Y3) : St := ⟨[(4, .rs 0), (5, .int .i64 v.1)], [.rows Riii v.2]⟩
def crest_Of_r3 (C : crest_Of_C) (v : crest_Of_Y2) : Dt crest_Of_Y3 := (Dt.ret (v.1, ([] : List Diii)))
theorem crest_Of_g3 (C : crest_Of_C) (v : crest_Of_Y2) : treg tysT (orc (crest_Of_tab C)) 101 (regO (bodyOf f14) 3) false [(4, (.own Riii)), (5, .any)] (crest_Of_S2 v) some = (crest_Of_r3 C v).eval fun y => some (crest_Of_S3 y) := by kernel_rfl
abbrev crest_Of_Y4 : Type := Bool × List Diii × Int × Int × List Di
def crest_Of_S4 (v : crest_Of_Y4) : St := ⟨[(2, .ptr 0 0), (3, .ptr 1 0), (6, .rs 2), (32, .bool v.1)], [.cells [.fz Riii v.2.1], .cells [.int .i64 v.2.2.1, .int .i64 v.2.2.2.1], .rows Ri v.2.2.2.2]⟩
def crest_Of_r4 (C : crest_Of_C) (v : crest_Of_Y2) : Dt crest_Of_Y4 := (Dt.ret (((List.length v.2.2.2.2.2 : Int) == (0:Int)), v.2.2.1, v.2.2.2.1, v.2.2.2.2.1, v.2.2.2.2.2))
theorem crest_Of_g4 (C : crest_Of_C) (v : crest_Of_Y2) : treg tysT (orc (crest_Of_tab C)) 101 (regO (bodyOf f14) 4) false [(2, (.box [.val Riii])), (3, .any), (6, (.own Ri)), (32, .any)] (crest_Of_S2 v) some = (crest_Of_r4 C v).eval fun y => some (crest_Of_S4 y) := by kernel_rfl
def crest_Of_r5 (C : crest_Of_C) (v : crest_Of_Y4) : Dt crest_Of_Y3 := (Dt.ret ((42:Int), ([] : List Diii)))
theorem crest_Of_g5 (C : crest_Of_C) (v : crest_Of_Y4) : treg tysT (orc (crest_Of_tab C)) 101 (regO (bodyOf f14) 5) false [(4, (.own Riii)), (5, .any)] (crest_Of_S4 v) some = (crest_Of_r5 C v).eval fun y => some (crest_Of_S3 y) := by kernel_rfl
abbrev crest_Of_Y6 : Type := List Diii × Int × Int × Int × Int × Int
def crest_Of_S6 (v : crest_Of_Y6) : St := ⟨[(2, .ptr 0 0), (3, .ptr 1 0), (8, .ptr 2 0)], [.cells [.fz Riii v.1], .cells [.int .i64 v.2.1, .int .i64 v.2.2.1], .cells [.int .i64 v.2.2.2.1, .int .i64 v.2.2.2.2.1, .int .i64 v.2.2.2.2.2]]⟩
def crest_Of_r6 (C : crest_Of_C) (v : crest_Of_Y4) : Dt crest_Of_Y6 := (Dt.ite (inB (0:Int) (List.length v.2.2.2.2)) (Dt.bnd (C.2.1 ((v.2.1, ()), ((elt zi v.2.2.2.2 ((0:Int)).toNat).1, ()), ())) fun r1 => (Dt.ret (v.2.1, v.2.2.1, v.2.2.2.1, r1.1, r1.2.1, r1.2.2.1))) Dt.fail)
theorem crest_Of_g6 (C : crest_Of_C) (v : crest_Of_Y4) : treg tysT (orc (crest_Of_tab C)) 101 (regO (bodyOf f14) 6) true [(2, (.box [.val Riii])), (3, .any), (8, .any)] (crest_Of_S4 v) some = (crest_Of_r6 C v).eval fun y => some (crest_Of_S6 y) := by kernel_rfl
abbrev crest_Of_Y7 : Type := List Diii × Int × Int × Int × Int × Int × List Diii
def crest_Of_S7 (v : crest_Of_Y7) : St := ⟨[(2, .ptr 0 0), (3, .ptr 1 0), (8, .ptr 2 0), (10, .rs 3)], [.cells [.fz Riii v.1], .cells [.int .i64 v.2.1, .int .i64 v.2.2.1], .cells [.int .i64 v.2.2.2.1, .int .i64 v.2.2.2.2.1, .int .i64 v.2.2.2.2.2.1], .rows Riii v.2.2.2.2.2.2]⟩
def crest_Of_r7 (C : crest_Of_C) (v : crest_Of_Y6) : Dt crest_Of_Y7 := (Dt.ret (v.1, v.2.1, v.2.2.1, v.2.2.2.1, v.2.2.2.2.1, v.2.2.2.2.2, ([(v.2.1, v.2.2.1, v.2.2.2.1, ())] : List Diii)))
theorem crest_Of_g7 (C : crest_Of_C) (v : crest_Of_Y6) : treg tysT (orc (crest_Of_tab C)) 101 (regO (bodyOf f14) 7) false [(2, (.box [.val Riii])), (3, .any), (8, .any), (10, (.own Riii))] (crest_Of_S6 v) some = (crest_Of_r7 C v).eval fun y => some (crest_Of_S7 y) := by kernel_rfl
abbrev crest_Of_Y8 : Type := List Diii × Int × Int × Int × Int × Int × List Diii × Int × Int × Int
def crest_Of_S8 (v : crest_Of_Y8) : St := ⟨[(2, .ptr 0 0), (3, .ptr 1 0), (8, .ptr 2 0), (10, .rs 3), (11, .ptr 4 0)], [.cells [.fz Riii v.1], .cells [.int .i64 v.2.1, .int .i64 v.2.2.1], .cells [.int .i64 v.2.2.2.1, .int .i64 v.2.2.2.2.1, .int .i64 v.2.2.2.2.2.1], .rows Riii v.2.2.2.2.2.2.1, .cells [.int .i64 v.2.2.2.2.2.2.2.1, .int .i64 v.2.2.2.2.2.2.2.2.1, .int .i64 v.2.2.2.2.2.2.2.2.2]]⟩
def crest_Of_r8 (C : crest_Of_C) (v : crest_Of_Y7) : Dt crest_Of_Y8 := (Dt.ret (v.1, v.2.1, v.2.2.1, v.2.2.2.1, v.2.2.2.2.1, v.2.2.2.2.2.1, v.2.2.2.2.2.2, (0:Int), (0:Int), (0:Int)))
theorem crest_Of_g8 (C : crest_Of_C) (v : crest_Of_Y7) : treg tysT (orc (crest_Of_tab C)) 101 (regO (bodyOf f14) 8) false [(2, (.box [.val Riii])), (3, .any), (8, .any), (10, (.own Riii)), (11, .any)] (crest_Of_S7 v) some = (crest_Of_r8 C v).eval fun y => some (crest_Of_S8 y) := by kernel_rfl
abbrev crest_Of_Y9 : Type := List Diii × Int × Int × Int × Int × Int × List Diii × Int × Int × Int × Int × Int
def crest_Of_S9 (v : crest_Of_Y9) : St := ⟨[(2, .ptr 0 0), (3, .ptr 1 0), (8, .ptr 2 0), (10, .rs 3), (11, .ptr 4 0), (12, .ptr 5 0)], [.cells [.fz Riii v.1], .cells [.int .i64 v.2.1, .int .i64 v.2.2.1], .cells [.int .i64 v.2.2.2.1, .int .i64 v.2.2.2.2.1, .int .i64 v.2.2.2.2.2.1], .rows Riii v.2.2.2.2.2.2.1, .cells [.int .i64 v.2.2.2.2.2.2.2.1, .int .i64 v.2.2.2.2.2.2.2.2.1, .int .i64 v.2.2.2.2.2.2.2.2.2.1], .cells [.int .i64 v.2.2.2.2.2.2.2.2.2.2.1, .int .i64 v.2.2.2.2.2.2.2.2.2.2.2]]⟩
def crest_Of_r9 (C : crest_Of_C) (v : crest_Of_Y8) : Dt crest_Of_Y9 := (Dt.ret (v.1, v.2.1, v.2.2.1, v.2.2.2.1, v.2.2.2.2.1, v.2.2.2.2.2.1, v.2.2.2.2.2.2.1, v.2.2.2.2.2.2.2.1, v.2.2.2.2.2.2.2.2.1, v.2.2.2.2.2.2.2.2.2, (0:Int), (0:Int)))
theorem crest_Of_g9 (C : crest_Of_C) (v : crest_Of_Y8) : treg tysT (orc (crest_Of_tab C)) 101 (regO (bodyOf f14) 9) false [(2, (.box [.val Riii])), (3, .any), (8, .any), (10, (.own Riii)), (11, .any), (12, .any)] (crest_Of_S8 v) some = (crest_Of_r9 C v).eval fun y => some (crest_Of_S9 y) := by kernel_rfl
abbrev crest_Of_Y10 : Type := List Diii × Int × Int × List Diii × Int × Int × Int × Int × Int × List Diii × Int × Int × Int × Int × Int
def crest_Of_S10 (v : crest_Of_Y10) : St := ⟨[(2, .ptr 0 0), (3, .ptr 1 0), (8, .ptr 2 0), (10, .rs 3), (11, .ptr 4 0), (12, .ptr 5 0), (47, .fz Riii v.1), (48, .int .i64 v.2.1), (49, .int .i64 v.2.2.1)], [.cells [.fz Riii v.2.2.2.1], .cells [.int .i64 v.2.2.2.2.1, .int .i64 v.2.2.2.2.2.1], .cells [.int .i64 v.2.2.2.2.2.2.1, .int .i64 v.2.2.2.2.2.2.2.1, .int .i64 v.2.2.2.2.2.2.2.2.1], .rows Riii v.2.2.2.2.2.2.2.2.2.1, .cells [.int .i64 v.2.2.2.2.2.2.2.2.2.2.1, .int .i64 v.2.2.2.2.2.2.2.2.2.2.2.1, .int .i64 v.2.2.2.2.2.2.2.2.2.2.2.2.1], .cells [.int .i64 v.2.2.2.2.2.2.2.2.2.2.2.2.2.1, .int .i64 v.2.2.2.2.2.2.2.2.2.2.2.2.2.2]]⟩
def crest_Of_r10 (C : crest_Of_C) (v : crest_Of_Y9) : Dt crest_Of_Y10 := (Dt.ret (v.1, (List.length v.1 : Int), (0:Int), v.1, v.2.1, v.2.2.1, v.2.2.2.1, v.2.2.2.2.1, v.2.2.2.2.2.1, v.2.2.2.2.2.2.1, v.2.2.2.2.2.2.2.1, v.2.2.2.2.2.2.2.2.1, v.2.2.2.2.2.2.2.2.2.1, v.2.2.2.2.2.2.2.2.2.2.1, v.2.2.2.2.2.2.2.2.2.2.2))
theorem crest_Of_g10 (C : crest_Of_C) (v : crest_Of_Y9) : treg tysT (orc (crest_Of_tab C)) 101 (regO (bodyOf f14) 10) false [(2, (.box [.val Riii])), (3, .any), (8, .any), (10, (.own Riii)), (11, .any), (12, .any), (47, (.val Riii)), (48, .any), (49, .any)] (crest_Of_S9 v) some = (crest_Of_r10 C v).eval fun y => some (crest_Of_S10 y) := by kernel_rfl
abbrev crest_Of_Y11 : Type := List Diii × Int × Int × Bool × List Diii × Int × Int × Int × Int × Int × List Diii × Int × Int × Int × Int × Int
def crest_Of_S11 (v : crest_Of_Y11) : St := ⟨[(2, .ptr 0 0), (3, .ptr 1 0), (8, .ptr 2 0), (10, .rs 3), (11, .ptr 4 0), (12, .ptr 5 0), (47, .fz Riii v.1), (48, .int .i64 v.2.1), (49, .int .i64 v.2.2.1), (50, .bool v.2.2.2.1)], [.cells [.fz Riii v.2.2.2.2.1], .cells [.int .i64 v.2.2.2.2.2.1, .int .i64 v.2.2.2.2.2.2.1], .cells [.int .i64 v.2.2.2.2.2.2.2.1, .int .i64 v.2.2.2.2.2.2.2.2.1, .int .i64 v.2.2.2.2.2.2.2.2.2.1], .rows Riii v.2.2.2.2.2.2.2.2.2.2.1, .cells [.int .i64 v.2.2.2.2.2.2.2.2.2.2.2.1, .int .i64 v.2.2.2.2.2.2.2.2.2.2.2.2.1, .int .i64 v.2.2.2.2.2.2.2.2.2.2.2.2.2.1], .cells [.int .i64 v.2.2.2.2.2.2.2.2.2.2.2.2.2.2.1, .int .i64 v.2.2.2.2.2.2.2.2.2.2.2.2.2.2.2]]⟩
def crest_Of_r11 (C : crest_Of_C) (v : crest_Of_Y10) : Dt crest_Of_Y11 := (Dt.ret (v.1, v.2.1, v.2.2.1, (decide (v.2.2.1 < v.2.1)), v.2.2.2.1, v.2.2.2.2.1, v.2.2.2.2.2.1, v.2.2.2.2.2.2.1, v.2.2.2.2.2.2.2.1, v.2.2.2.2.2.2.2.2.1, v.2.2.2.2.2.2.2.2.2.1, v.2.2.2.2.2.2.2.2.2.2.1, v.2.2.2.2.2.2.2.2.2.2.2.1, v.2.2.2.2.2.2.2.2.2.2.2.2.1, v.2.2.2.2.2.2.2.2.2.2.2.2.2.1, v.2.2.2.2.2.2.2.2.2.2.2.2.2.2))
theorem crest_Of_g11 (C : crest_Of_C) (v : crest_Of_Y10) : treg tysT (orc (crest_Of_tab C)) 101 (regO (bodyOf f14) 11) false [(2, (.box [.val Riii])), (3, .any), (8, .any), (10, (.own Riii)), (11, .any), (12, .any), (47, (.val Riii)), (48, .any), (49, .any), (50, .any)] (crest_Of_S10 v) some = (crest_Of_r11 C v).eval fun y => some (crest_Of_S11 y) := by kernel_rfl
abbrev crest_Of_Y12 : Type := List Diii × Int × Int × List Diii × Int × Int × Int × Int × Int × List Diii × Int × Int × Int × Int × Int × Int × Int × Int
def crest_Of_S12 (v : crest_Of_Y12) : St := ⟨[(2, .ptr 0 0), (3, .ptr 1 0), (8, .ptr 2 0), (10, .rs 3), (11, .ptr 4 0), (12, .ptr 5 0), (14, .ptr 6 0), (47, .fz Riii v.1), (48, .int .i64 v.2.1), (49, .int .i64 v.2.2.1)], [.cells [.fz Riii v.2.2.2.1], .cells [.int .i64 v.2.2.2.2.1, .int .i64 v.2.2.2.2.2.1], .cells [.int .i64 v.2.2.2.2.2.2.1, .int .i64 v.2.2.2.2.2.2.2.1, .int .i64 v.2.2.2.2.2.2.2.2.1], .rows Riii v.2.2.2.2.2.2.2.2.2.1, .cells [.int .i64 v.2.2.2.2.2.2.2.2.2.2.1, .int .i64 v.2.2.2.2.2.2.2.2.2.2.2.1, .int .i64 v.2.2.2.2.2.2.2.2.2.2.2.2.1], .cells [.int .i64 v.2.2.2.2.2.2.2.2.2.2.2.2.2.1, .int .i64 v.2.2.2.2.2.2.2.2.2.2.2.2.2.2.1], .cells [.int .i64 v.2.2.2.2.2.2.2.2.2.2.2.2.2.2.2.1, .int .i64 v.2.2.2.2.2.2.2.2.2.2.2.2.2.2.2.2.1, .int .i64 v.2.2.2.2.2.2.2.2.2.2.2.2.2.2.2.2.2]]⟩
def crest_Of_r12 (C : crest_Of_C) (v : crest_Of_Y11) : Dt crest_Of_Y12 := (Dt.ite (inB v.2.2.1 (List.length v.1)) (Dt.ret (v.1, v.2.1, v.2.2.1, v.2.2.2.2.1, v.2.2.2.2.2.1, v.2.2.2.2.2.2.1, v.2.2.2.2.2.2.2.1, v.2.2.2.2.2.2.2.2.1, v.2.2.2.2.2.2.2.2.2.1, v.2.2.2.2.2.2.2.2.2.2.1, v.2.2.2.2.2.2.2.2.2.2.2.1, v.2.2.2.2.2.2.2.2.2.2.2.2.1, v.2.2.2.2.2.2.2.2.2.2.2.2.2.1, v.2.2.2.2.2.2.2.2.2.2.2.2.2.2.1, v.2.2.2.2.2.2.2.2.2.2.2.2.2.2.2, (elt ziii v.1 (v.2.2.1).toNat).1, (elt ziii v.1 (v.2.2.1).toNat).2.1, (elt ziii v.1 (v.2.2.1).toNat).2.2.1)) Dt.fail)
theorem crest_Of_g12 (C : crest_Of_C) (v : crest_Of_Y11) : treg tysT (orc (crest_Of_tab C)) 101 (regO (bodyOf f14) 12) false [(2, (.box [.val Riii])), (3, .any), (8, .any), (10, (.own Riii)), (11, .any), (12, .any), (14, .any), (47, (.val Riii)), (48, .any), (49, .any)] (crest_Of_S11 v) some = (crest_Of_r12 C v).eval fun y => some (crest_Of_S12 y) := by kernel_rfl
abbrev crest_Of_Y13 : Type := Bool × Int × List Diii × Int × Int × List Diii × Int × Int × Int × Int × Int × List Diii × Int × Int × Int × Int × Int × Int × Int × Int × Int × Int
def crest_Of_S13 (v : crest_Of_Y13) : St := ⟨[(2, .ptr 0 0), (3, .ptr 1 0), (8, .ptr 2 0), (10, .rs 3), (11, .ptr 4 0), (12, .ptr 5 0), (14, .ptr 6 0), (15, .ptr 7 0), (16, .bool v.1), (17, .int .i64 v.2.1), (47, .fz Riii v.2.2.1), (48, .int .i64 v.2.2.2.1), (49, .int .i64 v.2.2.2.2.1)], [.cells [.fz Riii v.2.2.2.2.2.1], .cells [.int .i64 v.2.2.2.2.2.2.1, .int .i64 v.2.2.2.2.2.2.2.1], .cells [.int .i64 v.2.2.2.2.2.2.2.2.1, .int .i64 v.2.2.2.2.2.2.2.2.2.1, .int .i64 v.2.2.2.2.2.2.2.2.2.2.1], .rows Riii v.2.2.2.2.2.2.2.2.2.2.2.1, .cells [.int .i64 v.2.2.2.2.2.2.2.2.2.2.2.2.1, .int .i64 v.2.2.2.2.2.2.2.2.2.2.2.2.2.1, .int .i64 v.2.2.2.2.2.2.2.2.2.2.2.2.2.2.1], .cells [.int .i64 v.2.2.2.2.2.2.2.2.2.2.2.2.2.2.2.1, .int .i64 v.2.2.2.2.2.2.2.2.2.2.2.2.2.2.2.2.1], .cells [.int .i64 v.2.2.2.2.2.2.2.2.2.2.2.2.2.2.2.2.2.1, .int .i64 v.2.2.2.2.2.2.2.2.2.2.2.2.2.2.2.2.2.2.1, .int .i64 v.2.2.2.2.2.2.2.2.2.2.2.2.2.2.2.2.2.2.2.1], .cells [.int .i64 v.2.2.2.2.2.2.2.2.2.2.2.2.2.2.2.2.2.2.2.2.1, .int .i64 v.2.2.2.2.2.2.2.2.2.2.2.2.2.2.2.2.2.2.2.2.2]]⟩
def crest_Of_r13 (C : crest_Of_C) (v : crest_Of_Y12) : Dt crest_Of_Y13 := (Dt.bnd (C.2.2.1 ((v.2.2.2.2.2.2.1, v.2.2.2.2.2.2.2.1, v.2.2.2.2.2.2.2.2.1, ()), (v.2.2.2.2.2.2.2.2.2.2.2.2.2.2.2.1, v.2.2.2.2.2.2.2.2.2.2.2.2.2.2.2.2.1, v.2.2.2.2.2.2.2.2.2.2.2.2.2.2.2.2.2, ()), (v.2.2.2.2.1, v.2.2.2.2.2.1, ()), ())) fun r1 => (Dt.ret (r1.2.2.1, r1.2.2.2, v.1, v.2.1, v.2.2.1, v.2.2.2.1, v.2.2.2.2.1, v.2.2.2.2.2.1, v.2.2.2.2.2.2.1, v.2.2.2.2.2.2.2.1, v.2.2.2.2.2.2.2.2.1, v.2.2.2.2.2.2.2.2.2.1, v.2.2.2.2.2.2.2.2.2.2.1, v.2.2.2.2.2.2.2.2.2.2.2.1, v.2.2.2.2.2.2.2.2.2.2.2.2.1, v.2.2.2.2.2.2.2.2.2.2.2.2.2.1, v.2.2.2.2.2.2.2.2.2.2.2.2.2.2.1, v.2.2.2.2.2.2.2.2.2.2.2.2.2.2.2.1, v.2.2.2.2.2.2.2.2.2.2.2.2.2.2.2.2.1, v.2.2.2.2.2.2.2.2.2.2.2.2.2.2.2.2.2, r1.1, r1.2.1)))
theorem crest_Of_g13 (C : crest_Of_C) (v : crest_Of_Y12) : treg tysT (orc (crest_Of_tab C)) 101 (regO (bodyOf f14) 13) false [(2, (.box [.val Riii])), (3, .any), (8, .any), (10, (.own Riii)), (11, .any), (12, .any), (14, .any), (15, .any), (16, .any), (17, .any), (47, (.val Riii)), (48, .any), (49, .any)] (crest_Of_S12 v) some = (crest_Of_r13 C v).eval fun y => some (crest_Of_S13 y) := by kernel_rfl
abbrev crest_Of_Y14 : Type := List Diii × Int × Int × Bool × List Diii × Int × Int × Int × Int × Int × List Diii × Int × Int × Int × Int × Int × Int × Int × Int × Int × Int
def crest_Of_S14 (v : crest_Of_Y14) : St := ⟨[(2, .ptr 0 0), (3, .ptr 1 0), (8, .ptr 2 0), (10, .rs 3), (11, .ptr 4 0), (12, .ptr 5 0), (14, .ptr 6 0), (15, .ptr 7 0), (47, .fz Riii v.1), (48, .int .i64 v.2.1), (49, .int .i64 v.2.2.1), (66, .bool v.2.2.2.1)], [.cells [.fz Riii v.2.2.2.2.1], .cells [.int .i64 v.2.2.2.2.2.1, .int .i64 v.2.2.2.2.2.2.1], .cells [.int .i64 v.2.2.2.2.2.2.2.1, .int .i64 v.2.2.2.2.2.2.2.2.1, .int .i64 v.2.2.2.2.2.2.2.2.2.1], .rows Riii v.2.2.2.2.2.2.2.2.2.2.1, .cells [.int .i64 v.2.2.2.2.2.2.2.2.2.2.2.1, .int .i64 v.2.2.2.2.2.2.2.2.2.2.2.2.1, .int .i64 v.2.2.2.2.2.2.2.2.2.2.2.2.2.1], .cells [.int .i64 v.2.2.2.2.2.2.2.2.2.2.2.2.2.2.1, .int .i64 v.2.2.2.2.2.2.2.2.2.2.2.2.2.2.2.1], .cells [.int .i64 v.2.2.2.2.2.2.2.2.2.2.2.2.2.2.2.2.1, .int .i64 v.2.2.2.2.2.2.2.2.2.2.2.2.2.2.2.2.2.1, .int .i64 v.2.2.2.2.2.2.2.2.2.2.2.2.2.2.2.2.2.2.1], .cells [.int .i64 v.2.2.2.2.2.2.2.2.2.2.2.2.2.2.2.2.2.2.2.1, .int .i64 v.2.2.2.2.2.2.2.2.2.2.2.2.2.2.2.2.2.2.2.2]]⟩
def crest_Of_r14 (C : crest_Of_C) (v : crest_Of_Y13) : Dt crest_Of_Y14 := (Dt.ite (v.2.1 != (0:Int)) (Dt.ret (v.2.2.1, v.2.2.2.1, v.2.2.2.2.1, true, v.2.2.2.2.2.1, v.2.2.2.2.2.2.1, v.2.2.2.2.2.2.2.1, v.2.2.2.2.2.2.2.2.1, v.2.2.2.2.2.2.2.2.2.1, v.2.2.2.2.2.2.2.2.2.2.1, v.2.2.2.2.2.2.2.2.2.2.2.1, v.2.2.2.2.2.2.2.2.2.2.2.2.1, v.2.2.2.2.2.2.2.2.2.2.2.2.2.1, v.2.2.2.2.2.2.2.2.2.2.2.2.2.2.1, v.2.2.2.2.2.2.2.2.2.2.2.2.2.2.2.1, v.2.2.2.2.2.2.2.2.2.2.2.2.2.2.2.2.1, v.2.2.2.2.2.2.2.2.2.2.2.2.2.2.2.2.2.1, v.2.2.2.2.2.2.2.2.2.2.2.2.2.2.2.2.2.2.1, v.2.2.2.2.2.2.2.2.2.2.2.2.2.2.2.2.2.2.2.1, v.2.2.2.2.2.2.2.2.2.2.2.2.2.2.2.2.2.2.2.2.1, v.2.2.2.2.2.2.2.2.2.2.2.2.2.2.2.2.2.2.2.2.2)) (Dt.ret (v.2.2.1, v.2.2.2.1, v.2.2.2.2.1, (!v.1), v.2.2.2.2.2.1, v.2.2.2.2.2.2.1, v.2.2.2.2.2.2.2.1, v.2.2.2.2.2.2.2.2.1, v.2.2.2.2.2.2.2.2.2.1, v.2.2.2.2.2.2.2.2.2.2.1, v.2.2.2.2.2.2.2.2.2.2.2.1, v.2.2.2.2.2.2.2.2.2.2.2.2.1, v.2.2.2.2.2.2.2.2.2.2.2.2.2.1, v.2.2.2.2.2.2.2.2.2.2.2.2.2.2.1, v.2.2.2.2.2.2.2.2.2.2.2.2.2.2.2.1, v.2.2.2.2.2.2.2.2.2.2.2.2.2.2.2.2.1, v.2.2.2.2.2.2.2.2.2.2.2.2.2.2.2.2.2.1, v.2.2.2.2.2.2.2.2.2.2.2.2.2.2.2.2.2.2.1, v.2.2.2.2.2.2.2.2.2.2.2.2.2.2.2.2.2.2.2.1, v.2.2.2.2.2.2.2.2.2.2.2.2.2.2.2.2.2.2.2.2.1, v.2.2.2.2.2.2.2.2.2.2.2.2.2.2.2.2.2.2.2.2.2)))
theorem crest_Of_g14 (C : crest_Of_C) (v : crest_Of_Y13) : treg tysT (orc (crest_Of_tab C)) 101 (regO (bodyOf f14) 14) false [(2, (.box [.val Riii])), (3, .any), (8, .any), (10, (.own Riii)), (11, .any), (12, .any), (14, .any), (15, .any), (47, (.val Riii)), (48, .any), (49, .any), (66, .any)] (crest_Of_S13 v) some = (crest_Of_r14 C v).eval fun y => some (crest_Of_S14 y) := by kernel_rfl
def crest_Of_r24 (C : crest_Of_C) (v : crest_Of_Y10) : Dt crest_Of_Y10 := (Dt.ret (v.1, v.2.1, (IntKind.wrap .i64 (v.2.2.1 + (1:Int))), v.2.2.2.1, v.2.2.2.2.1, v.2.2.2.2.2.1, v.2.2.2.2.2.2.1, v.2.2.2.2.2.2.2.1, v.2.2.2.2.2.2.2.2.1, v.2.2.2.2.2.2.2.2.2.1, v.2.2.2.2.2.2.2.2.2.2.1, v.2.2.2.2.2.2.2.2.2.2.2.1, v.2.2.2.2.2.2.2.2.2.2.2.2.1, v.2.2.2.2.2.2.2.2.2.2.2.2.2.1, v.2.2.2.2.2.2.2.2.2.2.2.2.2.2))
theorem crest_Of_g24 (C : crest_Of_C) (v : crest_Of_Y10) : treg tysT (orc (crest_Of_tab C)) 101 (regO (bodyOf f14) 24) false [(2, (.box [.val Riii])), (3, .any), (8, .any), (10, (.own Riii)), (11, .any), (12, .any), (47, (.val Riii)), (48, .any), (49, .any)] (crest_Of_S10 v) some = (crest_Of_r24 C v).eval fun y => some (crest_Of_S10 y) := by kernel_rfl
def crest_Of_J3  (d : Nat) (self1 : (List Diii × Int × Int × Int × Int × Int × List Diii) → Option crest_Of_R) (self2 : (List Diii × Int × Int × List Diii × Int × Int × Int × Int × Int × List Diii × Int × Int × Int × Int × Int) → Option crest_Of_R) (z : List Diii × Int × Int × List Diii × Int × Int × Int × Int × Int × List Diii × Int × Int × Int × Int × Int) : Option (crest_Of_R) :=
  (crest_Of_r24 (crest_Of_K d) z).eval fun y24 =>
  self2 y24
abbrev crest_Of_Y15 : Type := Int × List Diii × Int × Int × List Diii × Int × Int × Int × Int × Int × List Diii × Int × Int × Int × Int × Int × Int × Int × Int × Int × Int
def crest_Of_S15 (v : crest_Of_Y15) : St := ⟨[(2, .ptr 0 0), (3, .ptr 1 0), (8, .ptr 2 0), (10, .rs 3), (11, .ptr 4 0), (12, .ptr 5 0), (14, .ptr 6 0), (15, .ptr 7 0), (18, .int .i64 v.1), (47, .fz Riii v.2.1), (48, .int .i64 v.2.2.1), (49, .int .i64 v.2.2.2.1)], [.cells [.fz Riii v.2.2.2.2.1], .cells [.int .i64 v.2.2.2.2.2.1, .int .i64 v.2.2.2.2.2.2.1], .cells [.int .i64 v.2.2.2.2.2.2.2.1, .int .i64 v.2.2.2.2.2.2.2.2.1, .int .i64 v.2.2.2.2.2.2.2.2.2.1], .rows Riii v.2.2.2.2.2.2.2.2.2.2.1, .cells [.int .i64 v.2.2.2.2.2.2.2.2.2.2.2.1, .int .i64 v.2.2.2.2.2.2.2.2.2.2.2.2.1, .int .i64 v.2.2.2.2.2.2.2.2.2.2.2.2.2.1], .cells [.int .i64 v.2.2.2.2.2.2.2.2.2.2.2.2.2.2.1, .int .i64 v.2.2.2.2.2.2.2.2.2.2.2.2.2.2.2.1], .cells [.int .i64 v.2.2.2.2.2.2.2.2.2.2.2.2.2.2.2.2.1, .int .i64 v.2.2.2.2.2.2.2.2.2.2.2.2.2.2.2.2.2.1, .int .i64 v.2.2.2.2.2.2.2.2.2.2.2.2.2.2.2.2.2.2.1], .cells [.int .i64 v.2.2.2.2.2.2.2.2.2.2.2.2.2.2.2.2.2.2.2.1, .int .i64 v.2.2.2.2.2.2.2.2.2.2.2.2.2.2.2.2.2.2.2.2]]⟩
def crest_Of_r15 (C : crest_Of_C) (v : crest_Of_Y14) : Dt crest_Of_Y15 := (Dt.ret ((-1:Int), v.1, v.2.1, v.2.2.1, v.2.2.2.2.1, v.2.2.2.2.2.1, v.2.2.2.2.2.2.1, v.2.2.2.2.2.2.2.1, v.2.2.2.2.2.2.2.2.1, v.2.2.2.2.2.2.2.2.2.1, v.2.2.2.2.2.2.2.2.2.2.1, v.2.2.2.2.2.2.2.2.2.2.2.1, v.2.2.2.2.2.2.2.2.2.2.2.2.1, v.2.2.2.2.2.2.2.2.2.2.2.2.2.1, v.2.2.2.2.2.2.2.2.2.2.2.2.2.2.1, v.2.2.2.2.2.2.2.2.2.2.2.2.2.2.2.1, v.2.2.2.2.2.2.2.2.2.2.2.2.2.2.2.2.1, v.2.2.2.2.2.2.2.2.2.2.2.2.2.2.2.2.2.1, v.2.2.2.2.2.2.2.2.2.2.2.2.2.2.2.2.2.2.1, v.2.2.2.2.2.2.2.2.2.2.2.2.2.2.2.2.2.2.2.1, v.2.2.2.2.2.2.2.2.2.2.2.2.2.2.2.2.2.2.2.2))
theorem crest_Of_g15 (C : crest_Of_C) (v : crest_Of_Y14) : treg tysT (orc (crest_Of_tab C)) 101 (regO (bodyOf f14) 15) false [(2, (.box [.val Riii])), (3, .any), (8, .any), (10, (.own Riii)), (11, .any), (12, .any), (14, .any), (15, .any), (18, .any), (47, (.val Riii)), (48, .any), (49, .any)] (crest_Of_S14 v) some = (crest_Of_r15 C v).eval fun y => some (crest_Of_S15 y) := by kernel_rfl
abbrev crest_Of_Y16 : Type := Int × List Diii × Int × Int × Bool × List Diii × Int × Int × Int × Int × Int × List Diii × Int × Int × Int × Int × Int × Int × Int × Int × Int × Int
def crest_Of_S16 (v : crest_Of_Y16) : St := ⟨[(2, .ptr 0 0), (3, .ptr 1 0), (8, .ptr 2 0), (10, .rs 3), (11, .ptr 4 0), (12, .ptr 5 0), (14, .ptr 6 0), (15, .ptr 7 0), (18, .int .i64 v.1), (47, .fz Riii v.2.1), (48, .int .i64 v.2.2.1), (49, .int .i64 v.2.2.2.1), (69, .bool v.2.2.2.2.1)], [.cells [.fz Riii v.2.2.2.2.2.1], .cells [.int .i64 v.2.2.2.2.2.2.1, .int .i64 v.2.2.2.2.2.2.2.1], .cells [.int .i64 v.2.2.2.2.2.2.2.2.1, .int .i64 v.2.2.2.2.2.2.2.2.2.1, .int .i64 v.2.2.2.2.2.2.2.2.2.2.1], .rows Riii v.2.2.2.2.2.2.2.2.2.2.2.1, .cells [.int .i64 v.2.2.2.2.2.2.2.2.2.2.2.2.1, .int .i64 v.2.2.2.2.2.2.2.2.2.2.2.2.2.1, .int .i64 v.2.2.2.2.2.2.2.2.2.2.2.2.2.2.1], .cells [.int .i64 v.2.2.2.2.2.2.2.2.2.2.2.2.2.2.2.1, .int .i64 v.2.2.2.2.2.2.2.2.2.2.2.2.2.2.2.2.1], .cells [.int .i64 v.2.2.2.2.2.2.2.2.2.2.2.2.2.2.2.2.2.1, .int .i64 v.2.2.2.2.2.2.2.2.2.2.2.2.2.2.2.2.2.2.1, .int .i64 v.2.2.2.2.2.2.2.2.2.2.2.2.2.2.2.2.2.2.2.1], .cells [.int .i64 v.2.2.2.2.2.2.2.2.2.2.2.2.2.2.2.2.2.2.2.2.1, .int .i64 v.2.2.2.2.2.2.2.2.2.2.2.2.2.2.2.2.2.2.2.2.2]]⟩
def crest_Of_r16 (C : crest_Of_C) (v : crest_Of_Y15) : Dt crest_Of_Y16 := (Dt.ret (v.1, v.2.1, v.2.2.1, v.2.2.2.1, (decide (v.2.2.2.2.2.2.2.2.2.2.2.2.2.2.2.1 > (0:Int))), v.2.2.2.2.1, v.2.2.2.2.2.1, v.2.2.2.2.2.2.1, v.2.2.2.2.2.2.2.1, v.2.2.2.2.2.2.2.2.1, v.2.2.2.2.2.2.2.2.2.1, v.2.2.2.2.2.2.2.2.2.2.1, v.2.2.2.2.2.2.2.2.2.2.2.1, v.2.2.2.2.2.2.2.2.2.2.2.2.1, v.2.2.2.2.2.2.2.2.2.2.2.2.2.1, v.2.2.2.2.2.2.2.2.2.2.2.2.2.2.1, v.2.2.2.2.2.2.2.2.2.2.2.2.2.2.2.1, v.2.2.2.2.2.2.2.2.2.2.2.2.2.2.2.2.1, v.2.2.2.2.2.2.2.2.2.2.2.2.2.2.2.2.2.1, v.2.2.2.2.2.2.2.2.2.2.2.2.2.2.2.2.2.2.1, v.2.2.2.2.2.2.2.2.2.2.2.2.2.2.2.2.2.2.2.1, v.2.2.2.2.2.2.2.2.2.2.2.2.2.2.2.2.2.2.2.2))
theorem crest_Of_g16 (C : crest_Of_C) (v : crest_Of_Y15) : treg tysT (orc (crest_Of_tab C)) 101 (regO (bodyOf f14) 16) false [(2, (.box [.val Riii])), (3, .any), (8, .any), (10, (.own Riii)), (11, .any), (12, .any), (14, .any), (15, .any), (18, .any), (47, (.val Riii)), (48, .any), (49, .any), (69, .any)] (crest_Of_S15 v) some = (crest_Of_r16 C v).eval fun y => some (crest_Of_S16 y) := by kernel_rfl
def crest_Of_r17 (C : crest_Of_C) (v : crest_Of_Y16) : Dt crest_Of_Y15 := (Dt.bnd (C.2.2.2.1 ((v.2.2.2.2.2.2.2.2.2.2.2.2.2.2.2.2.2.2.2.2.1, v.2.2.2.2.2.2.2.2.2.2.2.2.2.2.2.2.2.2.2.2.2, ()), (v.2.2.2.2.2.2.2.2.2.2.2.2.2.2.2.1, v.2.2.2.2.2.2.2.2.2.2.2.2.2.2.2.2.1, ()), ())) fun r1 => (Dt.ret (r1, v.2.1, v.2.2.1, v.2.2.2.1, v.2.2.2.2.2.1, v.2.2.2.2.2.2.1, v.2.2.2.2.2.2.2.1, v.2.2.2.2.2.2.2.2.1, v.2.2.2.2.2.2.2.2.2.1, v.2.2.2.2.2.2.2.2.2.2.1, v.2.2.2.2.2.2.2.2.2.2.2.1, v.2.2.2.2.2.2.2.2.2.2.2.2.1, v.2.2.2.2.2.2.2.2.2.2.2.2.2.1, v.2.2.2.2.2.2.2.2.2.2.2.2.2.2.1, v.2.2.2.2.2.2.2.2.2.2.2.2.2.2.2.1, v.2.2.2.2.2.2.2.2.2.2.2.2.2.2.2.2.1, v.2.2.2.2.2.2.2.2.2.2.2.2.2.2.2.2.2.1, v.2.2.2.2.2.2.2.2.2.2.2.2.2.2.2.2.2.2.1, v.2.2.2.2.2.2.2.2.2.2.2.2.2.2.2.2.2.2.2.1, v.2.2.2.2.2.2.2.2.2.2.2.2.2.2.2.2.2.2.2.2.1, v.2.2.2.2.2.2.2.2.2.2.2.2.2.2.2.2.2.2.2.2.2)))
theorem crest_Of_g17 (C : crest_Of_C) (v : crest_Of_Y16) : treg tysT (orc (crest_Of_tab C)) 101 (regO (bodyOf f14) 17) false [(2, (.box [.val Riii])), (3, .any), (8, .any), (10, (.own Riii)), (11, .any), (12, .any), (14, .any), (15, .any), (18, .any), (47, (.val Riii)), (48, .any), (49, .any)] (crest_Of_S16 v) some = (crest_Of_r17 C v).eval fun y => some (crest_Of_S15 y) := by kernel_rfl
abbrev crest_Of_Y18 : Type := Int × List Diii × Int × Int × Bool × List Diii × Int × Int × Int × Int × Int × List Diii × Int × Int × Int × Int × Int × Int × Int × Int × Int × Int
def crest_Of_S18 (v : crest_Of_Y18) : St := ⟨[(2, .ptr 0 0), (3, .ptr 1 0), (8, .ptr 2 0), (10, .rs 3), (11, .ptr 4 0), (12, .ptr 5 0), (14, .ptr 6 0), (15, .ptr 7 0), (18, .int .i64 v.1), (47, .fz Riii v.2.1), (48, .int .i64 v.2.2.1), (49, .int .i64 v.2.2.2.1), (74, .bool v.2.2.2.2.1)], [.cells [.fz Riii v.2.2.2.2.2.1], .cells [.int .i64 v.2.2.2.2.2.2.1, .int .i64 v.2.2.2.2.2.2.2.1], .cells [.int .i64 v.2.2.2.2.2.2.2.2.1, .int .i64 v.2.2.2.2.2.2.2.2.2.1, .int .i64 v.2.2.2.2.2.2.2.2.2.2.1], .rows Riii v.2.2.2.2.2.2.2.2.2.2.2.1, .cells [.int .i64 v.2.2.2.2.2.2.2.2.2.2.2.2.1, .int .i64 v.2.2.2.2.2.2.2.2.2.2.2.2.2.1, .int .i64 v.2.2.2.2.2.2.2.2.2.2.2.2.2.2.1], .cells [.int .i64 v.2.2.2.2.2.2.2.2.2.2.2.2.2.2.2.1, .int .i64 v.2.2.2.2.2.2.2.2.2.2.2.2.2.2.2.2.1], .cells [.int .i64 v.2.2.2.2.2.2.2.2.2.2.2.2.2.2.2.2.2.1, .int .i64 v.2.2.2.2.2.2.2.2.2.2.2.2.2.2.2.2.2.2.1, .int .i64 v.2.2.2.2.2.2.2.2.2.2.2.2.2.2.2.2.2.2.2.1], .cells [.int .i64 v.2.2.2.2.2.2.2.2.2.2.2.2.2.2.2.2.2.2.2.2.1, .int .i64 v.2.2.2.2.2.2.2.2.2.2.2.2.2.2.2.2.2.2.2.2.2]]⟩
def crest_Of_r18 (C : crest_Of_C) (v : crest_Of_Y15) : Dt crest_Of_Y18 := (Dt.ret (v.1, v.2.1, v.2.2.1, v.2.2.2.1, (v.1 == (0:Int)), v.2.2.2.2.1, v.2.2.2.2.2.1, v.2.2.2.2.2.2.1, v.2.2.2.2.2.2.2.1, v.2.2.2.2.2.2.2.2.1, v.2.2.2.2.2.2.2.2.2.1, v.2.2.2.2.2.2.2.2.2.2.1, v.2.2.2.2.2.2.2.2.2.2.2.1, v.2.2.2.2.2.2.2.2.2.2.2.2.1, v.2.2.2.2.2.2.2.2.2.2.2.2.2.1, v.2.2.2.2.2.2.2.2.2.2.2.2.2.2.1, v.2.2.2.2.2.2.2.2.2.2.2.2.2.2.2.1, v.2.2.2.2.2.2.2.2.2.2.2.2.2.2.2.2.1, v.2.2.2.2.2.2.2.2.2.2.2.2.2.2.2.2.2.1, v.2.2.2.2.2.2.2.2.2.2.2.2.2.2.2.2.2.2.1, v.2.2.2.2.2.2.2.2.2.2.2.2.2.2.2.2.2.2.2.1, v.2.2.2.2.2.2.2.2.2.2.2.2.2.2.2.2.2.2.2.2))
theorem crest_Of_g18 (C : crest_Of_C) (v : crest_Of_Y15) : treg tysT (orc (crest_Of_tab C)) 101 (regO (bodyOf f14) 18) false [(2, (.box [.val Riii])), (3, .any), (8, .any), (10, (.own Riii)), (11, .any), (12, .any), (14, .any), (15, .any), (18, .any), (47, (.val Riii)), (48, .any), (49, .any), (74, .any)] (crest_Of_S15 v) some = (crest_Of_r18 C v).eval fun y => some (crest_Of_S18 y) := by kernel_rfl
abbrev crest_Of_Y19 : Type := Int × Bool × List Diii × Int × Int × List Diii × Int × Int × Int × Int × Int × List Diii × Int × Int × Int × Int × Int × Int × Int × Int × Int × Int
def crest_Of_S19 (v : crest_Of_Y19) : St := ⟨[(2, .ptr 0 0), (3, .ptr 1 0), (8, .ptr 2 0), (10, .rs 3), (11, .ptr 4 0), (12, .ptr 5 0), (14, .ptr 6 0), (15, .ptr 7 0), (18, .int .i64 v.1), (19, .bool v.2.1), (47, .fz Riii v.2.2.1), (48, .int .i64 v.2.2.2.1), (49, .int .i64 v.2.2.2.2.1)], [.cells [.fz Riii v.2.2.2.2.2.1], .cells [.int .i64 v.2.2.2.2.2.2.1, .int .i64 v.2.2.2.2.2.2.2.1], .cells [.int .i64 v.2.2.2.2.2.2.2.2.1, .int .i64 v.2.2.2.2.2.2.2.2.2.1, .int .i64 v.2.2.2.2.2.2.2.2.2.2.1], .rows Riii v.2.2.2.2.2.2.2.2.2.2.2.1, .cells [.int .i64 v.2.2.2.2.2.2.2.2.2.2.2.2.1, .int .i64 v.2.2.2.2.2.2.2.2.2.2.2.2.2.1, .int .i64 v.2.2.2.2.2.2.2.2.2.2.2.2.2.2.1], .cells [.int .i64 v.2.2.2.2.2.2.2.2.2.2.2.2.2.2.2.1, .int .i64 v.2.2.2.2.2.2.2.2.2.2.2.2.2.2.2.2.1], .cells [.int .i64 v.2.2.2.2.2.2.2.2.2.2.2.2.2.2.2.2.2.1, .int .i64 v.2.2.2.2.2.2.2.2.2.2.2.2.2.2.2.2.2.2.1, .int .i64 v.2.2.2.2.2.2.2.2.2.2.2.2.2.2.2.2.2.2.2.1], .cells [.int .i64 v.2.2.2.2.2.2.2.2.2.2.2.2.2.2.2.2.2.2.2.2.1, .int .i64 v.2.2.2.2.2.2.2.2.2.2.2.2.2.2.2.2.2.2.2.2.2]]⟩
def crest_Of_r19 (C : crest_Of_C) (v : crest_Of_Y18) : Dt crest_Of_Y19 := (Dt.bnd (C.2.2.2.2.1 ((v.2.2.2.2.2.2.2.2.2.2.2.2.2.2.2.2.2.1, v.2.2.2.2.2.2.2.2.2.2.2.2.2.2.2.2.2.2.1, v.2.2.2.2.2.2.2.2.2.2.2.2.2.2.2.2.2.2.2.1, ()), (v.2.2.2.2.2.2.2.2.2.2.2.2.1, v.2.2.2.2.2.2.2.2.2.2.2.2.2.1, v.2.2.2.2.2.2.2.2.2.2.2.2.2.2.1, ()), (v.2.2.2.2.2.2.2.2.2.2.2.2.2.2.2.2.2.2.2.2.1, v.2.2.2.2.2.2.2.2.2.2.2.2.2.2.2.2.2.2.2.2.2, ()), ())) fun r1 => (Dt.ret (v.1, r1.1, v.2.1, v.2.2.1, v.2.2.2.1, v.2.2.2.2.2.1, v.2.2.2.2.2.2.1, v.2.2.2.2.2.2.2.1, v.2.2.2.2.2.2.2.2.1, v.2.2.2.2.2.2.2.2.2.1, v.2.2.2.2.2.2.2.2.2.2.1, v.2.2.2.2.2.2.2.2.2.2.2.1, v.2.2.2.2.2.2.2.2.2.2.2.2.1, v.2.2.2.2.2.2.2.2.2.2.2.2.2.1, v.2.2.2.2.2.2.2.2.2.2.2.2.2.2.1, v.2.2.2.2.2.2.2.2.2.2.2.2.2.2.2.1, v.2.2.2.2.2.2.2.2.2.2.2.2.2.2.2.2.1, v.2.2.2.2.2.2.2.2.2.2.2.2.2.2.2.2.2.1, v.2.2.2.2.2.2.2.2.2.2.2.2.2.2.2.2.2.2.1, v.2.2.2.2.2.2.2.2.2.2.2.2.2.2.2.2.2.2.2.1, v.2.2.2.2.2.2.2.2.2.2.2.2.2.2.2.2.2.2.2.2.1, v.2.2.2.2.2.2.2.2.2.2.2.2.2.2.2.2.2.2.2.2.2)))
theorem crest_Of_g19 (C : crest_Of_C) (v : crest_Of_Y18) : treg tysT (orc (crest_Of_tab C)) 101 (regO (bodyOf f14) 19) false [(2, (.box [.val Riii])), (3, .any), (8, .any), (10, (.own Riii)), (11, .any), (12, .any), (14, .any), (15, .any), (18, .any), (19, .any), (47, (.val Riii)), (48, .any), (49, .any)] (crest_Of_S18 v) some = (crest_Of_r19 C v).eval fun y => some (crest_Of_S19 y) := by kernel_rfl
abbrev crest_Of_Y20 : Type := Int × List Diii × Int × Int × Bool × List Diii × Int × Int × Int × Int × Int × List Diii × Int × Int × Int × Int × Int × Int × Int × Int × Int × Int
def crest_Of_S20 (v : crest_Of_Y20) : St := ⟨[(2, .ptr 0 0), (3, .ptr 1 0), (8, .ptr 2 0), (10, .rs 3), (11, .ptr 4 0), (12, .ptr 5 0), (14, .ptr 6 0), (15, .ptr 7 0), (18, .int .i64 v.1), (47, .fz Riii v.2.1), (48, .int .i64 v.2.2.1), (49, .int .i64 v.2.2.2.1), (82, .bool v.2.2.2.2.1)], [.cells [.fz Riii v.2.2.2.2.2.1], .cells [.int .i64 v.2.2.2.2.2.2.1, .int .i64 v.2.2.2.2.2.2.2.1], .cells [.int .i64 v.2.2.2.2.2.2.2.2.1, .int .i64 v.2.2.2.2.2.2.2.2.2.1, .int .i64 v.2.2.2.2.2.2.2.2.2.2.1], .rows Riii v.2.2.2.2.2.2.2.2.2.2.2.1, .cells [.int .i64 v.2.2.2.2.2.2.2.2.2.2.2.2.1, .int .i64 v.2.2.2.2.2.2.2.2.2.2.2.2.2.1, .int .i64 v.2.2.2.2.2.2.2.2.2.2.2.2.2.2.1], .cells [.int .i64 v.2.2.2.2.2.2.2.2.2.2.2.2.2.2.2.1, .int .i64 v.2.2.2.2.2.2.2.2.2.2.2.2.2.2.2.2.1], .cells [.int .i64 v.2.2.2.2.2.2.2.2.2.2.2.2.2.2.2.2.2.1, .int .i64 v.2.2.2.2.2.2.2.2.2.2.2.2.2.2.2.2.2.2.1, .int .i64 v.2.2.2.2.2.2.2.2.2.2.2.2.2.2.2.2.2.2.2.1], .cells [.int .i64 v.2.2.2.2.2.2.2.2.2.2.2.2.2.2.2.2.2.2.2.2.1, .int .i64 v.2.2.2.2.2.2.2.2.2.2.2.2.2.2.2.2.2.2.2.2.2]]⟩
def crest_Of_r20 (C : crest_Of_C) (v : crest_Of_Y19) : Dt crest_Of_Y20 := (Dt.ret (v.1, v.2.2.1, v.2.2.2.1, v.2.2.2.2.1, v.2.1, v.2.2.2.2.2.1, v.2.2.2.2.2.2.1, v.2.2.2.2.2.2.2.1, v.2.2.2.2.2.2.2.2.1, v.2.2.2.2.2.2.2.2.2.1, v.2.2.2.2.2.2.2.2.2.2.1, v.2.2.2.2.2.2.2.2.2.2.2.1, v.2.2.2.2.2.2.2.2.2.2.2.2.1, v.2.2.2.2.2.2.2.2.2.2.2.2.2.1, v.2.2.2.2.2.2.2.2.2.2.2.2.2.2.1, v.2.2.2.2.2.2.2.2.2.2.2.2.2.2.2.1, v.2.2.2.2.2.2.2.2.2.2.2.2.2.2.2.2.1, v.2.2.2.2.2.2.2.2.2.2.2.2.2.2.2.2.2.1, v.2.2.2.2.2.2.2.2.2.2.2.2.2.2.2.2.2.2.1, v.2.2.2.2.2.2.2.2.2.2.2.2.2.2.2.2.2.2.2.1, v.2.2.2.2.2.2.2.2.2.2.2.2.2.2.2.2.2.2.2.2.1, v.2.2.2.2.2.2.2.2.2.2.2.2.2.2.2.2.2.2.2.2.2))
theorem crest_Of_g20 (C : crest_Of_C) (v : crest_Of_Y19) : treg tysT (orc (crest_Of_tab C)) 101 (regO (bodyOf f14) 20) false [(2, (.box [.val Riii])), (3, .any), (8, .any), (10, (.own Riii)), (11, .any), (12, .any), (14, .any), (15, .any), (18, .any), (47, (.val Riii)), (48, .any), (49, .any), (82, .any)] (crest_Of_S19 v) some = (crest_Of_r20 C v).eval fun y => some (crest_Of_S20 y) := by kernel_rfl
def crest_Of_r21 (C : crest_Of_C) (v : crest_Of_Y20) : Dt crest_Of_Y15 := (Dt.ret ((-1:Int), v.2.1, v.2.2.1, v.2.2.2.1, v.2.2.2.2.2.1, v.2.2.2.2.2.2.1, v.2.2.2.2.2.2.2.1, v.2.2.2.2.2.2.2.2.1, v.2.2.2.2.2.2.2.2.2.1, v.2.2.2.2.2.2.2.2.2.2.1, v.2.2.2.2.2.2.2.2.2.2.2.1, v.2.2.2.2.2.2.2.2.2.2.2.2.1, v.2.2.2.2.2.2.2.2.2.2.2.2.2.1, v.2.2.2.2.2.2.2.2.2.2.2.2.2.2.1, v.2.2.2.2.2.2.2.2.2.2.2.2.2.2.2.1, v.2.2.2.2.2.2.2.2.2.2.2.2.2.2.2.2.1, v.2.2.2.2.2.2.2.2.2.2.2.2.2.2.2.2.2.1, v.2.2.2.2.2.2.2.2.2.2.2.2.2.2.2.2.2.2.1, v.2.2.2.2.2.2.2.2.2.2.2.2.2.2.2.2.2.2.2.1, v.2.2.2.2.2.2.2.2.2.2.2.2.2.2.2.2.2.2.2.2.1, v.2.2.2.2.2.2.2.2.2.2.2.2.2.2.2.2.2.2.2.2.2))
theorem crest_Of_g21 (C : crest_Of_C) (v : crest_Of_Y20) : treg tysT (orc (crest_Of_tab C)) 101 (regO (bodyOf f14) 21) false [(2, (.box [.val Riii])), (3, .any), (8, .any), (10, (.own Riii)), (11, .any), (12, .any), (14, .any), (15, .any), (18, .any), (47, (.val Riii)), (48, .any), (49, .any)] (crest_Of_S20 v) some = (crest_Of_r21 C v).eval fun y => some (crest_Of_S15 y) := by kernel_rfl
abbrev crest_Of_Y22 : Type := List Diii × Int × Int × Bool × List Diii × Int × Int × Int × Int × Int × List Diii × Int × Int × Int × Int × Int × Int × Int × Int × Int × Int
def crest_Of_S22 (v : crest_Of_Y22) : St := ⟨[(2, .ptr 0 0), (3, .ptr 1 0), (8, .ptr 2 0), (10, .rs 3), (11, .ptr 4 0), (12, .ptr 5 0), (14, .ptr 6 0), (15, .ptr 7 0), (47, .fz Riii v.1), (48, .int .i64 v.2.1), (49, .int .i64 v.2.2.1), (84, .bool v.2.2.2.1)], [.cells [.fz Riii v.2.2.2.2.1], .cells [.int .i64 v.2.2.2.2.2.1, .int .i64 v.2.2.2.2.2.2.1], .cells [.int .i64 v.2.2.2.2.2.2.2.1, .int .i64 v.2.2.2.2.2.2.2.2.1, .int .i64 v.2.2.2.2.2.2.2.2.2.1], .rows Riii v.2.2.2.2.2.2.2.2.2.2.1, .cells [.int .i64 v.2.2.2.2.2.2.2.2.2.2.2.1, .int .i64 v.2.2.2.2.2.2.2.2.2.2.2.2.1, .int .i64 v.2.2.2.2.2.2.2.2.2.2.2.2.2.1], .cells [.int .i64 v.2.2.2.2.2.2.2.2.2.2.2.2.2.2.1, .int .i64 v.2.2.2.2.2.2.2.2.2.2.2.2.2.2.2.1], .cells [.int .i64 v.2.2.2.2.2.2.2.2.2.2.2.2.2.2.2.2.1, .int .i64 v.2.2.2.2.2.2.2.2.2.2.2.2.2.2.2.2.2.1, .int .i64 v.2.2.2.2.2.2.2.2.2.2.2.2.2.2.2.2.2.2.1], .cells [.int .i64 v.2.2.2.2.2.2.2.2.2.2.2.2.2.2.2.2.2.2.2.1, .int .i64 v.2.2.2.2.2.2.2.2.2.2.2.2.2.2.2.2.2.2.2.2]]⟩
def crest_Of_r22 (C : crest_Of_C) (v : crest_Of_Y15) : Dt crest_Of_Y22 := (Dt.ret (v.2.1, v.2.2.1, v.2.2.2.1, (decide (v.1 < (0:Int))), v.2.2.2.2.1, v.2.2.2.2.2.1, v.2.2.2.2.2.2.1, v.2.2.2.2.2.2.2.1, v.2.2.2.2.2.2.2.2.1, v.2.2.2.2.2.2.2.2.2.1, v.2.2.2.2.2.2.2.2.2.2.1, v.2.2.2.2.2.2.2.2.2.2.2.1, v.2.2.2.2.2.2.2.2.2.2.2.2.1, v.2.2.2.2.2.2.2.2.2.2.2.2.2.1, v.2.2.2.2.2.2.2.2.2.2.2.2.2.2.1, v.2.2.2.2.2.2.2.2.2.2.2.2.2.2.2.1, v.2.2.2.2.2.2.2.2.2.2.2.2.2.2.2.2.1, v.2.2.2.2.2.2.2.2.2.2.2.2.2.2.2.2.2.1, v.2.2.2.2.2.2.2.2.2.2.2.2.2.2.2.2.2.2.1, v.2.2.2.2.2.2.2.2.2.2.2.2.2.2.2.2.2.2.2.1, v.2.2.2.2.2.2.2.2.2.2.2.2.2.2.2.2.2.2.2.2))
theorem crest_Of_g22 (C : crest_Of_C) (v : crest_Of_Y15) : treg tysT (orc (crest_Of_tab C)) 101 (regO (bodyOf f14) 22) false [(2, (.box [.val Riii])), (3, .any), (8, .any), (10, (.own Riii)), (11, .any), (12, .any), (14, .any), (15, .any), (47, (.val Riii)), (48, .any), (49, .any), (84, .any)] (crest_Of_S15 v) some = (crest_Of_r22 C v).eval fun y => some (crest_Of_S22 y) := by kernel_rfl
def crest_Of_r23 (C : crest_Of_C) (v : crest_Of_Y22) : Dt crest_Of_Y10 := (Dt.ret (v.1, v.2.1, v.2.2.1, v.2.2.2.2.1, v.2.2.2.2.2.1, v.2.2.2.2.2.2.1, v.2.2.2.2.2.2.2.1, v.2.2.2.2.2.2.2.2.1, v.2.2.2.2.2.2.2.2.2.1, v.2.2.2.2.2.2.2.2.2.2.1, v.2.2.2.2.2.2.2.2.2.2.2.2.2.2.2.2.1, v.2.2.2.2.2.2.2.2.2.2.2.2.2.2.2.2.2.1, v.2.2.2.2.2.2.2.2.2.2.2.2.2.2.2.2.2.2.1, v.2.2.2.2.2.2.2.2.2.2.2.2.2.2.2.2.2.2.2.1, v.2.2.2.2.2.2.2.2.2.2.2.2.2.2.2.2.2.2.2.2))
theorem crest_Of_g23 (C : crest_Of_C) (v : crest_Of_Y22) : treg tysT (orc (crest_Of_tab C)) 101 (regO (bodyOf f14) 23) true [(2, (.box [.val Riii])), (3, .any), (8, .any), (10, (.own Riii)), (11, .any), (12, .any), (47, (.val Riii)), (48, .any), (49, .any)] (crest_Of_S22 v) some = (crest_Of_r23 C v).eval fun y => some (crest_Of_S10 y) := by kernel_rfl
def crest_Of_J5  (d : Nat) (self1 : (List Diii × Int × Int × Int × Int × Int × List Diii) → Option crest_Of_R) (self2 : (List Diii × Int × Int × List Diii × Int × Int × Int × Int × Int × List Diii × Int × Int × Int × Int × Int) → Option crest_Of_R) (z : Int × List Diii × Int × Int × List Diii × Int × Int × Int × Int × Int × List Diii × Int × Int × Int × Int × Int × Int × Int × Int × Int × Int) : Option (crest_Of_R) :=
  (crest_Of_r22 (crest_Of_K d) z).eval fun y22 =>
  bif y22.2.2.2.1 then ((crest_Of_r23 (crest_Of_K d) y22).eval fun y23 =>
  crest_Of_J3 d self1 self2 y23) else (crest_Of_J3 d self1 self2 (y22.1, y22.2.1, y22.2.2.1, y22.2.2.2.2.1, y22.2.2.2.2.2.1, y22.2.2.2.2.2.2.1, y22.2.2.2.2.2.2.2.1, y22.2.2.2.2.2.2.2.2.1, y22.2.2.2.2.2.2.2.2.2.1, y22.2.2.2.2.2.2.2.2.2.2.1, y22.2.2.2.2.2.2.2.2.2.2.2.1, y22.2.2.2.2.2.2.2.2.2.2.2.2.1, y22.2.2.2.2.2.2.2.2.2.2.2.2.2.1, y22.2.2.2.2.2.2.2.2.2.2.2.2.2.2.1, y22.2.2.2.2.2.2.2.2.2.2.2.2.2.2.2.1))
def crest_Of_J4  (d : Nat) (self1 : (List Diii × Int × Int × Int × Int × Int × List Diii) → Option crest_Of_R) (self2 : (List Diii × Int × Int × List Diii × Int × Int × Int × Int × Int × List Diii × Int × Int × Int × Int × Int) → Option crest_Of_R) (z : Int × List Diii × Int × Int × List Diii × Int × Int × Int × Int × Int × List Diii × Int × Int × Int × Int × Int × Int × Int × Int × Int × Int) : Option (crest_Of_R) :=
  (crest_Of_r18 (crest_Of_K d) z).eval fun y18 =>
  bif y18.2.2.2.2.1 then ((crest_Of_r19 (crest_Of_K d) y18).eval fun y19 =>
  (crest_Of_r20 (crest_Of_K d) y19).eval fun y20 =>
  bif y20.2.2.2.2.1 then ((crest_Of_r21 (crest_Of_K d) y20).eval fun y21 =>
  crest_Of_J5 d self1 self2 y21) else (crest_Of_J5 d self1 self2 (y20.1, y20.2.1, y20.2.2.1, y20.2.2.2.1, y20.2.2.2.2.2.1, y20.2.2.2.2.2.2.1, y20.2.2.2.2.2.2.2.1, y20.2.2.2.2.2.2.2.2.1, y20.2.2.2.2.2.2.2.2.2.1, y20.2.2.2.2.2.2.2.2.2.2.1, y20.2.2.2.2.2.2.2.2.2.2.2.1, y20.2.2.2.2.2.2.2.2.2.2.2.2.1, y20.2.2.2.2.2.2.2.2.2.2.2.2.2.1, y20.2.2.2.2.2.2.2.2.2.2.2.2.2.2.1, y20.2.2.2.2.2.2.2.2.2.2.2.2.2.2.2.1, y20.2.2.2.2.2.2.2.2.2.2.2.2.2.2.2.2.1, y20.2.2.2.2.2.2.2.2.2.2.2.2.2.2.2.2.2.1, y20.2.2.2.2.2.2.2.2.2.2.2.2.2.2.2.2.2.2.1, y20.2.2.2.2.2.2.2.2.2.2.2.2.2.2.2.2.2.2.2.1, y20.2.2.2.2.2.2.2.2.2.2.2.2.2.2.2.2.2.2.2.2.1, y20.2.2.2.2.2.2.2.2.2.2.2.2.2.2.2.2.2.2.2.2.2))) else (crest_Of_J5 d self1 self2 (y18.1, y18.2.1, y18.2.2.1, y18.2.2.2.1, y18.2.2.2.2.2.1, y18.2.2.2.2.2.2.1, y18.2.2.2.2.2.2.2.1, y18.2.2.2.2.2.2.2.2.1, y18.2.2.2.2.2.2.2.2.2.1, y18.2.2.2.2.2.2.2.2.2.2.1, y18.2.2.2.2.2.2.2.2.2.2.2.1, y18.2.2.2.2.2.2.2.2.2.2.2.2.1, y18.2.2.2.2.2.2.2.2.2.2.2.2.2.1, y18.2.2.2.2.2.2.2.2.2.2.2.2.2.2.1, y18.2.2.2.2.2.2.2.2.2.2.2.2.2.2.2.1, y18.2.2.2.2.2.2.2.2.2.2.2.2.2.2.2.2.1, y18.2.2.2.2.2.2.2.2.2.2.2.2.2.2.2.2.2.1, y18.2.2.2.2.2.2.2.2.2.2.2.2.2.2.2.2.2.2.1, y18.2.2.2.2.2.2.2.2.2.2.2.2.2.2.2.2.2.2.2.1, y18.2.2.2.2.2.2.2.2.2.2.2.2.2.2.2.2.2.2.2.2.1, y18.2.2.2.2.2.2.2.2.2.2.2.2.2.2.2.2.2.2.2.2.2))
abbrev crest_Of_Y25 : Type := Bool × List Diii × Int × Int × Int × Int × Int × List Diii × Int × Int × Int × Int × Int
def crest_Of_S25 (v : crest_Of_Y25) : St := ⟨[(2, .ptr 0 0), (3, .ptr 1 0), (8, .ptr 2 0), (10, .rs 3), (11, .ptr 4 0), (12, .ptr 5 0), (90, .bool v.1)], [.cells [.fz Riii v.2.1], .cells [.int .i64 v.2.2.1, .int .i64 v.2.2.2.1], .cells [.int .i64 v.2.2.2.2.1, .int .i64 v.2.2.2.2.2.1, .int .i64 v.2.2.2.2.2.2.1], .rows Riii v.2.2.2.2.2.2.2.1, .cells [.int .i64 v.2.2.2.2.2.2.2.2.1, .int .i64 v.2.2.2.2.2.2.2.2.2.1, .int .i64 v.2.2.2.2.2.2.2.2.2.2.1], .cells [.int .i64 v.2.2.2.2.2.2.2.2.2.2.2.1, .int .i64 v.2.2.2.2.2.2.2.2.2.2.2.2]]⟩
def crest_Of_r25 (C : crest_Of_C) (v : crest_Of_Y11) : Dt crest_Of_Y25 := (Dt.ret ((v.2.2.2.2.2.2.2.2.2.2.2.2.2.2.2 == (0:Int)), v.2.2.2.2.1, v.2.2.2.2.2.1, v.2.2.2.2.2.2.1, v.2.2.2.2.2.2.2.1, v.2.2.2.2.2.2.2.2.1, v.2.2.2.2.2.2.2.2.2.1, v.2.2.2.2.2.2.2.2.2.2.1, v.2.2.2.2.2.2.2.2.2.2.2.1, v.2.2.2.2.2.2.2.2.2.2.2.2.1, v.2.2.2.2.2.2.2.2.2.2.2.2.2.1, v.2.2.2.2.2.2.2.2.2.2.2.2.2.2.1, v.2.2.2.2.2.2.2.2.2.2.2.2.2.2.2))
theorem crest_Of_g25 (C : crest_Of_C) (v : crest_Of_Y11) : treg tysT (orc (crest_Of_tab C)) 101 (regO (bodyOf f14) 25) false [(2, (.box [.val Riii])), (3, .any), (8, .any), (10, (.own Riii)), (11, .any), (12, .any), (90, .any)] (crest_Of_S11 v) some = (crest_Of_r25 C v).eval fun y => some (crest_Of_S25 y) := by kernel_rfl
def crest_Of_r26 (C : crest_Of_C) (v : crest_Of_Y25) : Dt crest_Of_Y3 := (Dt.ret ((0:Int), v.2.2.2.2.2.2.2.1))
theorem crest_Of_g26 (C : crest_Of_C) (v : crest_Of_Y25) : treg tysT (orc (crest_Of_tab C)) 101 (regO (bodyOf f14) 26) false [(4, (.own Riii)), (5, .any)] (crest_Of_S25 v) some = (crest_Of_r26 C v).eval fun y => some (crest_Of_S3 y) := by kernel_rfl
def crest_Of_r27 (C : crest_Of_C) (v : crest_Of_Y25) : Dt crest_Of_Y9 := (Dt.ret (v.2.1, v.2.2.2.2.2.2.2.2.2.2.2.1, v.2.2.2.2.2.2.2.2.2.2.2.2, v.2.2.2.2.2.2.2.2.1, v.2.2.2.2.2.2.2.2.2.1, v.2.2.2.2.2.2.2.2.2.2.1, v.2.2.2.2.2.2.2.1, v.2.2.2.2.2.2.2.2.1, v.2.2.2.2.2.2.2.2.2.1, v.2.2.2.2.2.2.2.2.2.2.1, v.2.2.2.2.2.2.2.2.2.2.2.1, v.2.2.2.2.2.2.2.2.2.2.2.2))
theorem crest_Of_g27 (C : crest_Of_C) (v : crest_Of_Y25) : treg tysT (orc (crest_Of_tab C)) 101 (regO (bodyOf f14) 27) true [(2, (.box [.val Riii])), (3, .any), (8, .any), (10, (.own Riii)), (11, .any), (12, .any)] (crest_Of_S25 v) some = (crest_Of_r27 C v).eval fun y => some (crest_Of_S9 y) := by kernel_rfl
def crest_Of_r28 (C : crest_Of_C) (v : crest_Of_Y9) : Dt crest_Of_Y7 := (Dt.ite (apB (List.length v.2.2.2.2.2.2.1) (List.length ([(v.2.2.2.2.2.2.2.2.2.2.1, v.2.2.2.2.2.2.2.2.2.2.2, v.2.2.2.2.2.2.2.1, ())] : List Diii))) (Dt.ret (v.1, v.2.1, v.2.2.1, v.2.2.2.1, v.2.2.2.2.1, v.2.2.2.2.2.1, (v.2.2.2.2.2.2.1 ++ ([(v.2.2.2.2.2.2.2.2.2.2.1, v.2.2.2.2.2.2.2.2.2.2.2, v.2.2.2.2.2.2.2.1, ())] : List Diii)))) Dt.fail)
theorem crest_Of_g28 (C : crest_Of_C) (v : crest_Of_Y9) : treg tysT (orc (crest_Of_tab C)) 101 (regO (bodyOf f14) 28) false [(2, (.box [.val Riii])), (3, .any), (8, .any), (10, (.own Riii))] (crest_Of_S9 v) some = (crest_Of_r28 C v).eval fun y => some (crest_Of_S7 y) := by kernel_rfl
def crest_Of_L2 (d : Nat) (self1 : (List Diii × Int × Int × Int × Int × Int × List Diii) → Option crest_Of_R) (self2 : (List Diii × Int × Int × List Diii × Int × Int × Int × Int × Int × List Diii × Int × Int × Int × Int × Int) → Option crest_Of_R) (x2 : List Diii × Int × Int × List Diii × Int × Int × Int × Int × Int × List Diii × Int × Int × Int × Int × Int) : Option crest_Of_R :=
  (crest_Of_r11 (crest_Of_K d) x2).eval fun y11 =>
  bif y11.2.2.2.1 then ((crest_Of_r12 (crest_Of_K d) y11).eval fun y12 =>
  (crest_Of_r13 (crest_Of_K d) y12).eval fun y13 =>
  (crest_Of_r14 (crest_Of_K d) y13).eval fun y14 =>
  bif y14.2.2.2.1 then (crest_Of_J3 d self1 self2 (y14.1, y14.2.1, y14.2.2.1, y14.2.2.2.2.1, y14.2.2.2.2.2.1, y14.2.2.2.2.2.2.1, y14.2.2.2.2.2.2.2.1, y14.2.2.2.2.2.2.2.2.1, y14.2.2.2.2.2.2.2.2.2.1, y14.2.2.2.2.2.2.2.2.2.2.1, y14.2.2.2.2.2.2.2.2.2.2.2.1, y14.2.2.2.2.2.2.2.2.2.2.2.2.1, y14.2.2.2.2.2.2.2.2.2.2.2.2.2.1, y14.2.2.2.2.2.2.2.2.2.2.2.2.2.2.1, y14.2.2.2.2.2.2.2.2.2.2.2.2.2.2.2.1)) else ((crest_Of_r15 (crest_Of_K d) y14).eval fun y15 =>
  (crest_Of_r16 (crest_Of_K d) y15).eval fun y16 =>
  bif y16.2.2.2.2.1 then ((crest_Of_r17 (crest_Of_K d) y16).eval fun y17 =>
  crest_Of_J4 d self1 self2 y17) else (crest_Of_J4 d self1 self2 (y16.1, y16.2.1, y16.2.2.1, y16.2.2.2.1, y16.2.2.2.2.2.1, y16.2.2.2.2.2.2.1, y16.2.2.2.2.2.2.2.1, y16.2.2.2.2.2.2.2.2.1, y16.2.2.2.2.2.2.2.2.2.1, y16.2.2.2.2.2.2.2.2.2.2.1, y16.2.2.2.2.2.2.2.2.2.2.2.1, y16.2.2.2.2.2.2.2.2.2.2.2.2.1, y16.2.2.2.2.2.2.2.2.2.2.2.2.2.1, y16.2.2.2.2.2.2.2.2.2.2.2.2.2.2.1, y16.2.2.2.2.2.2.2.2.2.2.2.2.2.2.2.1, y16.2.2.2.2.2.2.2.2.2.2.2.2.2.2.2.2.1, y16.2.2.2.2.2.2.2.2.2.2.2.2.2.2.2.2.2.1, y16.2.2.2.2.2.2.2.2.2.2.2.2.2.2.2.2.2.2.1, y16.2.2.2.2.2.2.2.2.2.2.2.2.2.2.2.2.2.2.2.1, y16.2.2.2.2.2.2.2.2.2.2.2.2.2.2.2.2.2.2.2.2.1, y16.2.2.2.2.2.2.2.2.2.2.2.2.2.2.2.2.2.2.2.2.2)))) else ((crest_Of_r25 (crest_Of_K d) y11).eval fun y25 =>
  bif y25.1 then ((crest_Of_r26 (crest_Of_K d) y25).eval fun y26 =>
  some (y26.2, y26.1)) else ((crest_Of_r27 (crest_Of_K d) y25).eval fun y27 =>
  (crest_Of_r28 (crest_Of_K d) y27).eval fun y28 =>
  self1 y28))
def crest_Of_L1 (d : Nat) (self1 : (List Diii × Int × Int × Int × Int × Int × List Diii) → Option crest_Of_R) (x1 : List Diii × Int × Int × Int × Int × Int × List Diii) : Option crest_Of_R :=
  (crest_Of_r8 (crest_Of_K d) x1).eval fun y8 =>
  (crest_Of_r9 (crest_Of_K d) y8).eval fun y9 =>
  (crest_Of_r10 (crest_Of_K d) y9).eval fun y10 =>
  iter (crest_Of_L2 d self1) d y10
def F_crest_Of (d : Nat) (x : crest_Of_X) : Option crest_Of_R :=
  (crest_Of_r0 (crest_Of_K d) (x.1.1, x.2.1.1, x.2.1.2.1)).eval fun y0 =>
  (crest_Of_r1 (crest_Of_K d) y0).eval fun y1 =>
  (crest_Of_r2 (crest_Of_K d) y1).eval fun y2 =>
  bif y2.2.1 then ((crest_Of_r3 (crest_Of_K d) y2).eval fun y3 =>
  some (y3.2, y3.1)) else ((crest_Of_r4 (crest_Of_K d) y2).eval fun y4 =>
  bif y4.1 then ((crest_Of_r5 (crest_Of_K d) y4).eval fun y5 =>
  some (y5.2, y5.1)) else ((crest_Of_r6 (crest_Of_K d) y4).eval fun y6 =>
  (crest_Of_r7 (crest_Of_K d) y6).eval fun y7 =>
  iter (crest_Of_L1 d ) d y7))
theorem crest_Of_cok (d : Nat) : COK prog (crest_Of_sp (F_crest_Of d)) := by
  have hm : prog.follows .mixedOrders = true := mixed
  have hT := tys
  have hC0 : OrcOK prog (orc (crest_Of_tab (crest_Of_K d))) := orc_ok (by
    intro S hS
    simp only [crest_Of_tab, List.mem_cons, List.not_mem_nil, or_false] at hS
    rcases hS with rfl | rfl | rfl | rfl | rfl
    · exact field_Order_cok d
    · exact field_Find_cok d
    · exact course_Fails_cok d
    · exact crest_compare_cok d
    · exact course_Ahead_cok d)
  have hC : OrcOK prog (orc (crest_Of_tab (crest_Of_K d))) := hC0
  refine cok_of (c := bodyOf f14) (fn := f14) hT (by kernel_rfl) (by kernel_rfl) (by decide) fun x r h w0 φ0 Q hend => ?_
  replace h : F_crest_Of d x = some r := h
  unfold F_crest_Of at h
  show Run prog w0 φ0 101 (bodyOf f14) ⟨[(0, .agg [.fz Riii x.1.1]), (1, .agg [.int .i64 x.2.1.1, .int .i64 x.2.1.2.1])], []⟩ Q
  refine run_seq ?_
  refine run_reg hm hT hC (crest_Of_g0 (crest_Of_K d) (x.1.1, x.2.1.1, x.2.1.2.1)) h ?_
  intro y0 h
  refine cn_then ?_
  refine run_seq ?_
  refine run_reg hm hT hC (crest_Of_g1 (crest_Of_K d) y0) h ?_
  intro y1 h
  refine cn_then ?_
  refine run_seq ?_
  refine run_seq ?_
  refine run_reg hm hT hC (crest_Of_g2 (crest_Of_K d) y1) h ?_
  intro y2 h
  refine cn_then ?_
  refine run_cond (v := y2.2.1) (by kernel_rfl) h ?_ ?_
  ·
    intro h
    refine run_seq ?_
    refine run_reg hm hT hC (crest_Of_g3 (crest_Of_K d) y2) h ?_
    intro y3 h
    refine cn_then ?_
    refine run_ret ?_
    refine cn_then_ret ?_
    cases h
    exact (hend _ (by kernel_rfl)).2
  ·
    intro h
    refine run_skip ?_
    refine cn_then ?_
    refine run_seq ?_
    refine run_seq ?_
    refine run_reg hm hT hC (crest_Of_g4 (crest_Of_K d) y2) h ?_
    intro y4 h
    refine cn_then ?_
    refine run_cond (v := y4.1) (by kernel_rfl) h ?_ ?_
    ·
      intro h
      refine run_seq ?_
      refine run_reg hm hT hC (crest_Of_g5 (crest_Of_K d) y4) h ?_
      intro y5 h
      refine cn_then ?_
      refine run_ret ?_
      refine cn_then_ret ?_
      cases h
      exact (hend _ (by kernel_rfl)).2
    ·
      intro h
      refine run_skip ?_
      refine cn_then ?_
      refine run_seq ?_
      refine run_reg hm hT hC (crest_Of_g6 (crest_Of_K d) y4) h ?_
      intro y6 h
      refine cn_then ?_
      refine run_seq ?_
      refine run_reg hm hT hC (crest_Of_g7 (crest_Of_K d) y6) h ?_
      intro y7 h
      refine cn_then ?_
      refine run_block ?_
      refine run_loop (G := iter (crest_Of_L1 d )) (S := (fun x1 => ⟨[(2, .ptr 0 0), (3, .ptr 1 0), (8, .ptr 2 0), (10, .rs 3)], [.cells [.fz Riii x1.1], .cells [.int .i64 x1.2.1, .int .i64 x1.2.2.1], .cells [.int .i64 x1.2.2.2.1, .int .i64 x1.2.2.2.2.1, .int .i64 x1.2.2.2.2.2.1], .rows Riii x1.2.2.2.2.2.2]⟩ : List Diii × Int × Int × Int × Int × Int × List Diii → St)) (fun _ => rfl) ?_ d _ h
      intro n1 x1 h K1 hn1
      replace h : crest_Of_L1 d  (iter (crest_Of_L1 d ) n1) x1 = some r := h
      generalize iter (crest_Of_L1 d ) n1 = self1 at h hn1
      unfold crest_Of_L1 at h
      refine run_block ?_
      refine run_seq ?_
      refine run_reg hm hT hC (crest_Of_g8 (crest_Of_K d) x1) h ?_
      intro y8 h
      refine cn_then ?_
      refine run_seq ?_
      refine run_reg hm hT hC (crest_Of_g9 (crest_Of_K d) y8) h ?_
      intro y9 h
      refine cn_then ?_
      refine run_seq ?_
      refine run_seq ?_
      refine run_reg hm hT hC (crest_Of_g10 (crest_Of_K d) y9) h ?_
      intro y10 h
      refine cn_then ?_
      refine run_block ?_
      refine run_loop (G := iter (crest_Of_L2 d self1)) (S := (fun x2 => ⟨[(2, .ptr 0 0), (3, .ptr 1 0), (8, .ptr 2 0), (10, .rs 3), (11, .ptr 4 0), (12, .ptr 5 0), (47, .fz Riii x2.1), (48, .int .i64 x2.2.1), (49, .int .i64 x2.2.2.1)], [.cells [.fz Riii x2.2.2.2.1], .cells [.int .i64 x2.2.2.2.2.1, .int .i64 x2.2.2.2.2.2.1], .cells [.int .i64 x2.2.2.2.2.2.2.1, .int .i64 x2.2.2.2.2.2.2.2.1, .int .i64 x2.2.2.2.2.2.2.2.2.1], .rows Riii x2.2.2.2.2.2.2.2.2.2.1, .cells [.int .i64 x2.2.2.2.2.2.2.2.2.2.2.1, .int .i64 x2.2.2.2.2.2.2.2.2.2.2.2.1, .int .i64 x2.2.2.2.2.2.2.2.2.2.2.2.2.1], .cells [.int .i64 x2.2.2.2.2.2.2.2.2.2.2.2.2.2.1, .int .i64 x2.2.2.2.2.2.2.2.2.2.2.2.2.2.2]]⟩ : List Diii × Int × Int × List Diii × Int × Int × Int × Int × Int × List Diii × Int × Int × Int × Int × Int → St)) (fun _ => rfl) ?_ d _ h
      intro n2 x2 h K2 hn2
      replace h : crest_Of_L2 d self1 (iter (crest_Of_L2 d self1) n2) x2 = some r := h
      generalize iter (crest_Of_L2 d self1) n2 = self2 at h hn2
      unfold crest_Of_L2 at h
      refine run_seq ?_
      refine run_reg hm hT hC (crest_Of_g11 (crest_Of_K d) x2) h ?_
      intro y11 h
      refine cn_then ?_
      refine run_seq ?_
      refine run_cond (v := y11.2.2.2.1) (by kernel_rfl) h ?_ ?_
      ·
        intro h
        refine run_skip ?_
        refine cn_then ?_
        refine run_join (r := r) (F := crest_Of_J3 d self1 self2) (S := (fun z => ⟨[(2, .ptr 0 0), (3, .ptr 1 0), (8, .ptr 2 0), (10, .rs 3), (11, .ptr 4 0), (12, .ptr 5 0), (47, .fz Riii z.1), (48, .int .i64 z.2.1), (49, .int .i64 z.2.2.1)], [.cells [.fz Riii z.2.2.2.1], .cells [.int .i64 z.2.2.2.2.1, .int .i64 z.2.2.2.2.2.1], .cells [.int .i64 z.2.2.2.2.2.2.1, .int .i64 z.2.2.2.2.2.2.2.1, .int .i64 z.2.2.2.2.2.2.2.2.1], .rows Riii z.2.2.2.2.2.2.2.2.2.1, .cells [.int .i64 z.2.2.2.2.2.2.2.2.2.2.1, .int .i64 z.2.2.2.2.2.2.2.2.2.2.2.1, .int .i64 z.2.2.2.2.2.2.2.2.2.2.2.2.1], .cells [.int .i64 z.2.2.2.2.2.2.2.2.2.2.2.2.2.1, .int .i64 z.2.2.2.2.2.2.2.2.2.2.2.2.2.2]]⟩ : List Diii × Int × Int × List Diii × Int × Int × Int × Int × Int × List Diii × Int × Int × Int × Int × Int → St)) ?_ ?_
        ·
          intro z h
          unfold crest_Of_J3 at h
          refine run_reg hm hT hC (crest_Of_g24 (crest_Of_K d) z) h ?_
          intro y24 h
          exact hn2 _ h
        intro hj3
        refine run_block ?_
        refine run_seq ?_
        refine run_reg hm hT hC (crest_Of_g12 (crest_Of_K d) y11) h ?_
        intro y12 h
        refine cn_then ?_
        refine run_seq ?_
        refine run_reg hm hT hC (crest_Of_g13 (crest_Of_K d) y12) h ?_
        intro y13 h
        refine cn_then ?_
        refine run_seq ?_
        refine run_seq ?_
        refine run_reg hm hT hC (crest_Of_g14 (crest_Of_K d) y13) h ?_
        intro y14 h
        refine cn_then ?_
        refine run_cond (v := y14.2.2.2.1) (by kernel_rfl) h ?_ ?_
        ·
          intro h
          refine run_exit ?_
          refine cn_then_exit ?_
          refine cn_blk_eq ?_
          refine cn_num (s := ⟨[(2, .ptr 0 0), (3, .ptr 1 0), (8, .ptr 2 0), (10, .rs 3), (11, .ptr 4 0), (12, .ptr 5 0), (47, .fz Riii y14.1), (48, .int .i64 y14.2.1), (49, .int .i64 y14.2.2.1)], [.cells [.fz Riii y14.2.2.2.2.1], .cells [.int .i64 y14.2.2.2.2.2.1, .int .i64 y14.2.2.2.2.2.2.1], .cells [.int .i64 y14.2.2.2.2.2.2.2.1, .int .i64 y14.2.2.2.2.2.2.2.2.1, .int .i64 y14.2.2.2.2.2.2.2.2.2.1], .rows Riii y14.2.2.2.2.2.2.2.2.2.2.1, .cells [.int .i64 y14.2.2.2.2.2.2.2.2.2.2.2.1, .int .i64 y14.2.2.2.2.2.2.2.2.2.2.2.2.1, .int .i64 y14.2.2.2.2.2.2.2.2.2.2.2.2.2.1], .cells [.int .i64 y14.2.2.2.2.2.2.2.2.2.2.2.2.2.2.1, .int .i64 y14.2.2.2.2.2.2.2.2.2.2.2.2.2.2.2.1]]⟩) [14, 15, 66] (by kernel_rfl) ?_
          exact hj3 _ h
        ·
          intro h
          refine run_skip ?_
          refine cn_then ?_
          refine run_seq ?_
          refine run_reg hm hT hC (crest_Of_g15 (crest_Of_K d) y14) h ?_
          intro y15 h
          refine cn_then ?_
          refine run_join (r := r) (F := crest_Of_J4 d self1 self2) (S := (fun z => ⟨[(2, .ptr 0 0), (3, .ptr 1 0), (8, .ptr 2 0), (10, .rs 3), (11, .ptr 4 0), (12, .ptr 5 0), (14, .ptr 6 0), (15, .ptr 7 0), (18, .int .i64 z.1), (47, .fz Riii z.2.1), (48, .int .i64 z.2.2.1), (49, .int .i64 z.2.2.2.1)], [.cells [.fz Riii z.2.2.2.2.1], .cells [.int .i64 z.2.2.2.2.2.1, .int .i64 z.2.2.2.2.2.2.1], .cells [.int .i64 z.2.2.2.2.2.2.2.1, .int .i64 z.2.2.2.2.2.2.2.2.1, .int .i64 z.2.2.2.2.2.2.2.2.2.1], .rows Riii z.2.2.2.2.2.2.2.2.2.2.1, .cells [.int .i64 z.2.2.2.2.2.2.2.2.2.2.2.1, .int .i64 z.2.2.2.2.2.2.2.2.2.2.2.2.1, .int .i64 z.2.2.2.2.2.2.2.2.2.2.2.2.2.1], .cells [.int .i64 z.2.2.2.2.2.2.2.2.2.2.2.2.2.2.1, .int .i64 z.2.2.2.2.2.2.2.2.2.2.2.2.2.2.2.1], .cells [.int .i64 z.2.2.2.2.2.2.2.2.2.2.2.2.2.2.2.2.1, .int .i64 z.2.2.2.2.2.2.2.2.2.2.2.2.2.2.2.2.2.1, .int .i64 z.2.2.2.2.2.2.2.2.2.2.2.2.2.2.2.2.2.2.1], .cells [.int .i64 z.2.2.2.2.2.2.2.2.2.2.2.2.2.2.2.2.2.2.2.1, .int .i64 z.2.2.2.2.2.2.2.2.2.2.2.2.2.2.2.2.2.2.2.2]]⟩ : Int × List Diii × Int × Int × List Diii × Int × Int × Int × Int × Int × List Diii × Int × Int × Int × Int × Int × Int × Int × Int × Int × Int → St)) ?_ ?_
          ·
            intro z h
            unfold crest_Of_J4 at h
            refine run_join (r := r) (F := crest_Of_J5 d self1 self2) (S := (fun z => ⟨[(2, .ptr 0 0), (3, .ptr 1 0), (8, .ptr 2 0), (10, .rs 3), (11, .ptr 4 0), (12, .ptr 5 0), (14, .ptr 6 0), (15, .ptr 7 0), (18, .int .i64 z.1), (47, .fz Riii z.2.1), (48, .int .i64 z.2.2.1), (49, .int .i64 z.2.2.2.1)], [.cells [.fz Riii z.2.2.2.2.1], .cells [.int .i64 z.2.2.2.2.2.1, .int .i64 z.2.2.2.2.2.2.1], .cells [.int .i64 z.2.2.2.2.2.2.2.1, .int .i64 z.2.2.2.2.2.2.2.2.1, .int .i64 z.2.2.2.2.2.2.2.2.2.1], .rows Riii z.2.2.2.2.2.2.2.2.2.2.1, .cells [.int .i64 z.2.2.2.2.2.2.2.2.2.2.2.1, .int .i64 z.2.2.2.2.2.2.2.2.2.2.2.2.1, .int .i64 z.2.2.2.2.2.2.2.2.2.2.2.2.2.1], .cells [.int .i64 z.2.2.2.2.2.2.2.2.2.2.2.2.2.2.1, .int .i64 z.2.2.2.2.2.2.2.2.2.2.2.2.2.2.2.1], .cells [.int .i64 z.2.2.2.2.2.2.2.2.2.2.2.2.2.2.2.2.1, .int .i64 z.2.2.2.2.2.2.2.2.2.2.2.2.2.2.2.2.2.1, .int .i64 z.2.2.2.2.2.2.2.2.2.2.2.2.2.2.2.2.2.2.1], .cells [.int .i64 z.2.2.2.2.2.2.2.2.2.2.2.2.2.2.2.2.2.2.2.1, .int .i64 z.2.2.2.2.2.2.2.2.2.2.2.2.2.2.2.2.2.2.2.2]]⟩ : Int × List Diii × Int × Int × List Diii × Int × Int × Int × Int × Int × List Diii × Int × Int × Int × Int × Int × Int × Int × Int × Int × Int → St)) ?_ ?_
            ·
              intro z h
              unfold crest_Of_J5 at h
              refine run_seq ?_
              refine run_reg hm hT hC (crest_Of_g22 (crest_Of_K d) z) h ?_
              intro y22 h
              refine cn_then ?_
              refine run_cond (v := y22.2.2.2.1) (by kernel_rfl) h ?_ ?_
              ·
                intro h
                refine run_reg hm hT hC (crest_Of_g23 (crest_Of_K d) y22) h ?_
                intro y23 h
                refine cn_blk ?_
                exact hj3 _ h
              ·
                intro h
                refine run_skip ?_
                refine cn_blk ?_
                refine cn_num (s := ⟨[(2, .ptr 0 0), (3, .ptr 1 0), (8, .ptr 2 0), (10, .rs 3), (11, .ptr 4 0), (12, .ptr 5 0), (47, .fz Riii y22.1), (48, .int .i64 y22.2.1), (49, .int .i64 y22.2.2.1), (84, .bool y22.2.2.2.1)], [.cells [.fz Riii y22.2.2.2.2.1], .cells [.int .i64 y22.2.2.2.2.2.1, .int .i64 y22.2.2.2.2.2.2.1], .cells [.int .i64 y22.2.2.2.2.2.2.2.1, .int .i64 y22.2.2.2.2.2.2.2.2.1, .int .i64 y22.2.2.2.2.2.2.2.2.2.1], .rows Riii y22.2.2.2.2.2.2.2.2.2.2.1, .cells [.int .i64 y22.2.2.2.2.2.2.2.2.2.2.2.1, .int .i64 y22.2.2.2.2.2.2.2.2.2.2.2.2.1, .int .i64 y22.2.2.2.2.2.2.2.2.2.2.2.2.2.1], .cells [.int .i64 y22.2.2.2.2.2.2.2.2.2.2.2.2.2.2.1, .int .i64 y22.2.2.2.2.2.2.2.2.2.2.2.2.2.2.2.1]]⟩) [14, 15] (by kernel_rfl) ?_
                refine cn_num (s := ⟨[(2, .ptr 0 0), (3, .ptr 1 0), (8, .ptr 2 0), (10, .rs 3), (11, .ptr 4 0), (12, .ptr 5 0), (47, .fz Riii y22.1), (48, .int .i64 y22.2.1), (49, .int .i64 y22.2.2.1)], [.cells [.fz Riii y22.2.2.2.2.1], .cells [.int .i64 y22.2.2.2.2.2.1, .int .i64 y22.2.2.2.2.2.2.1], .cells [.int .i64 y22.2.2.2.2.2.2.2.1, .int .i64 y22.2.2.2.2.2.2.2.2.1, .int .i64 y22.2.2.2.2.2.2.2.2.2.1], .rows Riii y22.2.2.2.2.2.2.2.2.2.2.1, .cells [.int .i64 y22.2.2.2.2.2.2.2.2.2.2.2.1, .int .i64 y22.2.2.2.2.2.2.2.2.2.2.2.2.1, .int .i64 y22.2.2.2.2.2.2.2.2.2.2.2.2.2.1], .cells [.int .i64 y22.2.2.2.2.2.2.2.2.2.2.2.2.2.2.1, .int .i64 y22.2.2.2.2.2.2.2.2.2.2.2.2.2.2.2.1]]⟩) [84] (by kernel_rfl) ?_
                exact hj3 _ h
            intro hj5
            refine run_seq ?_
            refine run_reg hm hT hC (crest_Of_g18 (crest_Of_K d) z) h ?_
            intro y18 h
            refine cn_then ?_
            refine run_cond (v := y18.2.2.2.2.1) (by kernel_rfl) h ?_ ?_
            ·
              intro h
              refine run_seq ?_
              refine run_reg hm hT hC (crest_Of_g19 (crest_Of_K d) y18) h ?_
              intro y19 h
              refine cn_then ?_
              refine run_seq ?_
              refine run_reg hm hT hC (crest_Of_g20 (crest_Of_K d) y19) h ?_
              intro y20 h
              refine cn_then ?_
              refine run_cond (v := y20.2.2.2.2.1) (by kernel_rfl) h ?_ ?_
              ·
                intro h
                refine run_reg hm hT hC (crest_Of_g21 (crest_Of_K d) y20) h ?_
                intro y21 h
                exact hj5 _ h
              ·
                intro h
                refine run_skip ?_
                refine cn_num (s := ⟨[(2, .ptr 0 0), (3, .ptr 1 0), (8, .ptr 2 0), (10, .rs 3), (11, .ptr 4 0), (12, .ptr 5 0), (14, .ptr 6 0), (15, .ptr 7 0), (18, .int .i64 y20.1), (47, .fz Riii y20.2.1), (48, .int .i64 y20.2.2.1), (49, .int .i64 y20.2.2.2.1)], [.cells [.fz Riii y20.2.2.2.2.2.1], .cells [.int .i64 y20.2.2.2.2.2.2.1, .int .i64 y20.2.2.2.2.2.2.2.1], .cells [.int .i64 y20.2.2.2.2.2.2.2.2.1, .int .i64 y20.2.2.2.2.2.2.2.2.2.1, .int .i64 y20.2.2.2.2.2.2.2.2.2.2.1], .rows Riii y20.2.2.2.2.2.2.2.2.2.2.2.1, .cells [.int .i64 y20.2.2.2.2.2.2.2.2.2.2.2.2.1, .int .i64 y20.2.2.2.2.2.2.2.2.2.2.2.2.2.1, .int .i64 y20.2.2.2.2.2.2.2.2.2.2.2.2.2.2.1], .cells [.int .i64 y20.2.2.2.2.2.2.2.2.2.2.2.2.2.2.2.1, .int .i64 y20.2.2.2.2.2.2.2.2.2.2.2.2.2.2.2.2.1], .cells [.int .i64 y20.2.2.2.2.2.2.2.2.2.2.2.2.2.2.2.2.2.1, .int .i64 y20.2.2.2.2.2.2.2.2.2.2.2.2.2.2.2.2.2.2.1, .int .i64 y20.2.2.2.2.2.2.2.2.2.2.2.2.2.2.2.2.2.2.2.1], .cells [.int .i64 y20.2.2.2.2.2.2.2.2.2.2.2.2.2.2.2.2.2.2.2.2.1, .int .i64 y20.2.2.2.2.2.2.2.2.2.2.2.2.2.2.2.2.2.2.2.2.2]]⟩) [82] (by kernel_rfl) ?_
                exact hj5 _ h
            ·
              intro h
              refine run_skip ?_
              refine cn_num (s := ⟨[(2, .ptr 0 0), (3, .ptr 1 0), (8, .ptr 2 0), (10, .rs 3), (11, .ptr 4 0), (12, .ptr 5 0), (14, .ptr 6 0), (15, .ptr 7 0), (18, .int .i64 y18.1), (47, .fz Riii y18.2.1), (48, .int .i64 y18.2.2.1), (49, .int .i64 y18.2.2.2.1)], [.cells [.fz Riii y18.2.2.2.2.2.1], .cells [.int .i64 y18.2.2.2.2.2.2.1, .int .i64 y18.2.2.2.2.2.2.2.1], .cells [.int .i64 y18.2.2.2.2.2.2.2.2.1, .int .i64 y18.2.2.2.2.2.2.2.2.2.1, .int .i64 y18.2.2.2.2.2.2.2.2.2.2.1], .rows Riii y18.2.2.2.2.2.2.2.2.2.2.2.1, .cells [.int .i64 y18.2.2.2.2.2.2.2.2.2.2.2.2.1, .int .i64 y18.2.2.2.2.2.2.2.2.2.2.2.2.2.1, .int .i64 y18.2.2.2.2.2.2.2.2.2.2.2.2.2.2.1], .cells [.int .i64 y18.2.2.2.2.2.2.2.2.2.2.2.2.2.2.2.1, .int .i64 y18.2.2.2.2.2.2.2.2.2.2.2.2.2.2.2.2.1], .cells [.int .i64 y18.2.2.2.2.2.2.2.2.2.2.2.2.2.2.2.2.2.1, .int .i64 y18.2.2.2.2.2.2.2.2.2.2.2.2.2.2.2.2.2.2.1, .int .i64 y18.2.2.2.2.2.2.2.2.2.2.2.2.2.2.2.2.2.2.2.1], .cells [.int .i64 y18.2.2.2.2.2.2.2.2.2.2.2.2.2.2.2.2.2.2.2.2.1, .int .i64 y18.2.2.2.2.2.2.2.2.2.2.2.2.2.2.2.2.2.2.2.2.2]]⟩) [74] (by kernel_rfl) ?_
              exact hj5 _ h
          intro hj4
          refine run_seq ?_
          refine run_reg hm hT hC (crest_Of_g16 (crest_Of_K d) y15) h ?_
          intro y16 h
          refine cn_then ?_
          refine run_cond (v := y16.2.2.2.2.1) (by kernel_rfl) h ?_ ?_
          ·
            intro h
            refine run_reg hm hT hC (crest_Of_g17 (crest_Of_K d) y16) h ?_
            intro y17 h
            exact hj4 _ h
          ·
            intro h
            refine run_skip ?_
            refine cn_num (s := ⟨[(2, .ptr 0 0), (3, .ptr 1 0), (8, .ptr 2 0), (10, .rs 3), (11, .ptr 4 0), (12, .ptr 5 0), (14, .ptr 6 0), (15, .ptr 7 0), (18, .int .i64 y16.1), (47, .fz Riii y16.2.1), (48, .int .i64 y16.2.2.1), (49, .int .i64 y16.2.2.2.1)], [.cells [.fz Riii y16.2.2.2.2.2.1], .cells [.int .i64 y16.2.2.2.2.2.2.1, .int .i64 y16.2.2.2.2.2.2.2.1], .cells [.int .i64 y16.2.2.2.2.2.2.2.2.1, .int .i64 y16.2.2.2.2.2.2.2.2.2.1, .int .i64 y16.2.2.2.2.2.2.2.2.2.2.1], .rows Riii y16.2.2.2.2.2.2.2.2.2.2.2.1, .cells [.int .i64 y16.2.2.2.2.2.2.2.2.2.2.2.2.1, .int .i64 y16.2.2.2.2.2.2.2.2.2.2.2.2.2.1, .int .i64 y16.2.2.2.2.2.2.2.2.2.2.2.2.2.2.1], .cells [.int .i64 y16.2.2.2.2.2.2.2.2.2.2.2.2.2.2.2.1, .int .i64 y16.2.2.2.2.2.2.2.2.2.2.2.2.2.2.2.2.1], .cells [.int .i64 y16.2.2.2.2.2.2.2.2.2.2.2.2.2.2.2.2.2.1, .int .i64 y16.2.2.2.2.2.2.2.2.2.2.2.2.2.2.2.2.2.2.1, .int .i64 y16.2.2.2.2.2.2.2.2.2.2.2.2.2.2.2.2.2.2.2.1], .cells [.int .i64 y16.2.2.2.2.2.2.2.2.2.2.2.2.2.2.2.2.2.2.2.2.1, .int .i64 y16.2.2.2.2.2.2.2.2.2.2.2.2.2.2.2.2.2.2.2.2.2]]⟩) [69] (by kernel_rfl) ?_
            exact hj4 _ h
      ·
        intro h
        refine run_exit ?_
        refine cn_then_exit ?_
        refine cn_then_exit ?_
        refine cn_blk_eq ?_
        refine cn_then ?_
        refine run_seq ?_
        refine run_seq ?_
        refine run_reg hm hT hC (crest_Of_g25 (crest_Of_K d) y11) h ?_
        intro y25 h
        refine cn_then ?_
        refine run_cond (v := y25.1) (by kernel_rfl) h ?_ ?_
        ·
          intro h
          refine run_seq ?_
          refine run_reg hm hT hC (crest_Of_g26 (crest_Of_K d) y25) h ?_
          intro y26 h
          refine cn_then ?_
          refine run_ret ?_
          refine cn_then_ret ?_
          refine cn_blk_ret ?_
          refine cn_then_ret ?_
          refine cn_blk_ret ?_
          cases h
          exact (hend _ (by kernel_rfl)).2
        ·
          intro h
          refine run_skip ?_
          refine cn_then ?_
          refine run_seq ?_
          refine run_reg hm hT hC (crest_Of_g27 (crest_Of_K d) y25) h ?_
          intro y27 h
          refine cn_then ?_
          refine run_reg hm hT hC (crest_Of_g28 (crest_Of_K d) y27) h ?_
          intro y28 h
          refine cn_blk ?_
          exact hn1 _ h
abbrev race_check_ps : List Pk := [.row RLiiiE true, .row Rii true, .row Rii true]
abbrev race_check_X : Type := DLiiiE × Dii × Dii × Unit
abbrev race_check_R : Type := Int
def race_check_enc (r : race_check_R) : LV × List Ob := (.int .i64 r, [])
def race_check_sp (F : race_check_X → Option race_check_R) : Go.Tx.Spec := ⟨59, race_check_ps, race_check_R, F, race_check_enc⟩
abbrev race_check_C : Type := (ratio_Check_X → Option ratio_Check_R) × (ratio_Cmp_X → Option ratio_Cmp_R) × (field_Check_X → Option field_Check_R) × Unit
def race_check_K (d : Nat) : race_check_C := (F_ratio_Check d, F_ratio_Cmp d, F_field_Check d, ())
def race_check_tab (C : race_check_C) : List Go.Tx.Spec := [ratio_Check_sp C.1, ratio_Cmp_sp C.2.1, field_Check_sp C.2.2.1]
abbrev race_check_Y0i : Type := List Diii × Int × Int × Int × Int
def race_check_S0i (v : race_check_Y0i) : St := ⟨[(0, .agg [.fz Riii v.1]), (1, .agg [.int .i64 v.2.1, .int .i64 v.2.2.1]), (2, .agg [.int .i64 v.2.2.2.1, .int .i64 v.2.2.2.2])], []⟩
abbrev race_check_Y0 : Type := List Diii × Int × Int × Int × Int
def race_check_S0 (v : race_check_Y0) : St := ⟨[(3, .ptr 0 0), (4, .ptr 1 0), (5, .ptr 2 0)], [.cells [.fz Riii v.1], .cells [.int .i64 v.2.1, .int .i64 v.2.2.1], .cells [.int .i64 v.2.2.2.1, .int .i64 v.2.2.2.2]]⟩
def race_check_r0 (C : race_check_C) (v : race_check_Y0i) : Dt race_check_Y0 := (Dt.ret (v.1, v.2.1, v.2.2.1, v.2.2.2.1, v.2.2.2.2))
theorem race_check_g0 (C : race_check_C) (v : race_check_Y0i) : treg tysT (orc (race_check_tab C)) 31 (regO (bodyOf f59) 0) false [(3, (.box [.val Riii])), (4, .any), (5, .any)] (race_check_S0i v) some = (race_check_r0 C v).eval fun y => some (race_check_S0 y) := by kernel_rfl
abbrev race_check_Y1 : Type := Int × Int × Int × Int × Int
def race_check_S1 (v : race_check_Y1) : St := ⟨[(4, .ptr 0 0), (5, .ptr 1 0), (7, .int .i64 v.1)], [.cells [.int .i64 v.2.1, .int .i64 v.2.2.1], .cells [.int .i64 v.2.2.2.1, .int .i64 v.2.2.2.2]]⟩
def race_check_r1 (C : race_check_C) (v : race_check_Y0) : Dt race_check_Y1 := (Dt.bnd (C.2.2.1 ((v.1, ()), ())) fun r1 => (Dt.ret (r1, v.2.1, v.2.2.1, v.2.2.2.1, v.2.2.2.2)))
theorem race_check_g1 (C : race_check_C) (v : race_check_Y0) : treg tysT (orc (race_check_tab C)) 31 (regO (bodyOf f59) 1) false [(4, .any), (5, .any), (7, .any)] (race_check_S0 v) some = (race_check_r1 C v).eval fun y => some (race_check_S1 y) := by kernel_rfl
abbrev race_check_Y2 : Type := Int × Bool × Int × Int × Int × Int
def race_check_S2 (v : race_check_Y2) : St := ⟨[(4, .ptr 0 0), (5, .ptr 1 0), (7, .int .i64 v.1), (13, .bool v.2.1)], [.cells [.int .i64 v.2.2.1, .int .i64 v.2.2.2.1], .cells [.int .i64 v.2.2.2.2.1, .int .i64 v.2.2.2.2.2]]⟩
def race_check_r2 (C : race_check_C) (v : race_check_Y1) : Dt race_check_Y2 := (Dt.ret (v.1, (v.1 != (0:Int)), v.2.1, v.2.2.1, v.2.2.2.1, v.2.2.2.2))
theorem race_check_g2 (C : race_check_C) (v : race_check_Y1) : treg tysT (orc (race_check_tab C)) 31 (regO (bodyOf f59) 2) false [(4, .any), (5, .any), (7, .any), (13, .any)] (race_check_S1 v) some = (race_check_r2 C v).eval fun y => some (race_check_S2 y) := by kernel_rfl
abbrev race_check_Y3 : Type := Int
def race_check_S3 (v : race_check_Y3) : St := ⟨[(6, .int .i64 v)], []⟩
def race_check_r3 (C : race_check_C) (v : race_check_Y2) : Dt race_check_Y3 := (Dt.ret v.1)
theorem race_check_g3 (C : race_check_C) (v : race_check_Y2) : treg tysT (orc (race_check_tab C)) 31 (regO (bodyOf f59) 3) false [(6, .any)] (race_check_S2 v) some = (race_check_r3 C v).eval fun y => some (race_check_S3 y) := by kernel_rfl
abbrev race_check_Y4 : Type := Bool × Int × Int × Int × Int
def race_check_S4 (v : race_check_Y4) : St := ⟨[(4, .ptr 0 0), (5, .ptr 1 0), (22, .bool v.1)], [.cells [.int .i64 v.2.1, .int .i64 v.2.2.1], .cells [.int .i64 v.2.2.2.1, .int .i64 v.2.2.2.2]]⟩
def race_check_r4 (C : race_check_C) (v : race_check_Y2) : Dt race_check_Y4 := (Dt.bnd (C.1 ((v.2.2.1, v.2.2.2.1, ()), ())) fun r1 => (Dt.ite (r1 != (0:Int)) (Dt.ret (true, v.2.2.1, v.2.2.2.1, v.2.2.2.2.1, v.2.2.2.2.2)) (Dt.bnd (C.1 ((v.2.2.2.2.1, v.2.2.2.2.2, ()), ())) fun r2 => (Dt.ret ((r2 != (0:Int)), v.2.2.1, v.2.2.2.1, v.2.2.2.2.1, v.2.2.2.2.2)))))
theorem race_check_g4 (C : race_check_C) (v : race_check_Y2) : treg tysT (orc (race_check_tab C)) 31 (regO (bodyOf f59) 4) false [(4, .any), (5, .any), (22, .any)] (race_check_S2 v) some = (race_check_r4 C v).eval fun y => some (race_check_S4 y) := by kernel_rfl
def race_check_r5 (C : race_check_C) (v : race_check_Y4) : Dt race_check_Y3 := (Dt.ret (8:Int))
theorem race_check_g5 (C : race_check_C) (v : race_check_Y4) : treg tysT (orc (race_check_tab C)) 31 (regO (bodyOf f59) 5) false [(6, .any)] (race_check_S4 v) some = (race_check_r5 C v).eval fun y => some (race_check_S3 y) := by kernel_rfl
abbrev race_check_Y6 : Type := Int
def race_check_S6 (v : race_check_Y6) : St := ⟨[(8, .int .i64 v)], []⟩
def race_check_r6 (C : race_check_C) (v : race_check_Y4) : Dt race_check_Y6 := (Dt.bnd (C.2.1 ((v.2.1, v.2.2.1, ()), (v.2.2.2.1, v.2.2.2.2, ()), ())) fun r1 => (Dt.ret r1.1))
theorem race_check_g6 (C : race_check_C) (v : race_check_Y4) : treg tysT (orc (race_check_tab C)) 31 (regO (bodyOf f59) 6) false [(8, .any)] (race_check_S4 v) some = (race_check_r6 C v).eval fun y => some (race_check_S6 y) := by kernel_rfl
abbrev race_check_Y7 : Type := Bool
def race_check_S7 (v : race_check_Y7) : St := ⟨[(30, .bool v)], []⟩
def race_check_r7 (C : race_check_C) (v : race_check_Y6) : Dt race_check_Y7 := (Dt.ret (decide (v > (0:Int))))
theorem race_check_g7 (C : race_check_C) (v : race_check_Y6) : treg tysT (orc (race_check_tab C)) 31 (regO (bodyOf f59) 7) false [(30, .any)] (race_check_S6 v) some = (race_check_r7 C v).eval fun y => some (race_check_S7 y) := by kernel_rfl
def race_check_r8 (C : race_check_C) (v : race_check_Y7) : Dt race_check_Y3 := (Dt.ret (2:Int))
theorem race_check_g8 (C : race_check_C) (v : race_check_Y7) : treg tysT (orc (race_check_tab C)) 31 (regO (bodyOf f59) 8) false [(6, .any)] (race_check_S7 v) some = (race_check_r8 C v).eval fun y => some (race_check_S3 y) := by kernel_rfl
def race_check_r9 (C : race_check_C) (v : race_check_Y7) : Dt race_check_Y3 := (Dt.ret (0:Int))
theorem race_check_g9 (C : race_check_C) (v : race_check_Y7) : treg tysT (orc (race_check_tab C)) 31 (regO (bodyOf f59) 9) false [(6, .any)] (race_check_S7 v) some = (race_check_r9 C v).eval fun y => some (race_check_S3 y) := by kernel_rfl
def F_race_check (d : Nat) (x : race_check_X) : Option race_check_R :=
  (race_check_r0 (race_check_K d) (x.1.1, x.2.1.1, x.2.1.2.1, x.2.2.1.1, x.2.2.1.2.1)).eval fun y0 =>
  (race_check_r1 (race_check_K d) y0).eval fun y1 =>
  (race_check_r2 (race_check_K d) y1).eval fun y2 =>
  bif y2.2.1 then ((race_check_r3 (race_check_K d) y2).eval fun y3 =>
  some y3) else ((race_check_r4 (race_check_K d) y2).eval fun y4 =>
  bif y4.1 then ((race_check_r5 (race_check_K d) y4).eval fun y5 =>
  some y5) else ((race_check_r6 (race_check_K d) y4).eval fun y6 =>
  (race_check_r7 (race_check_K d) y6).eval fun y7 =>
  bif y7 then ((race_check_r8 (race_check_K d) y7).eval fun y8 =>
  some y8) else ((race_check_r9 (race_check_K d) y7).eval fun y9 =>
  some y9)))
theorem race_check_cok (d : Nat) : COK prog (race_check_sp (F_race_check d)) := by
  have hm : prog.follows .mixedOrders = true := mixed
  have hT := tys
  have hC0 : OrcOK prog (orc (race_check_tab (race_check_K d))) := orc_ok (by
    intro S hS
    simp only [race_check_tab, List.mem_cons, List.not_mem_nil, or_false] at hS
    rcases hS with rfl | rfl | rfl
    · exact ratio_Check_cok d
    · exact ratio_Cmp_cok d
    · exact field_Check_cok d)
  have hC : OrcOK prog (orc (race_check_tab (race_check_K d))) := hC0
  refine cok_of (c := bodyOf f59) (fn := f59) hT (by kernel_rfl) (by kernel_rfl) (by decide) fun x r h w0 φ0 Q hend => ?_
  replace h : F_race_check d x = some r := h
  unfold F_race_check at h
  show Run prog w0 φ0 31 (bodyOf f59) ⟨[(0, .agg [.fz Riii x.1.1]), (1, .agg [.int .i64 x.2.1.1, .int .i64 x.2.1.2.1]), (2, .agg [.int .i64 x.2.2.1.1, .int .i64 x.2.2.1.2.1])], []⟩ Q
  refine run_seq ?_
  refine run_reg hm hT hC (race_check_g0 (race_check_K d) (x.1.1, x.2.1.1, x.2.1.2.1, x.2.2.1.1, x.2.2.1.2.1)) h ?_
  intro y0 h
  refine cn_then ?_
  refine run_seq ?_
  refine run_seq ?_
  refine run_reg hm hT hC (race_check_g1 (race_check_K d) y0) h ?_
  intro y1 h
  refine cn_then ?_
  refine run_seq ?_
  refine run_reg hm hT hC (race_check_g2 (race_check_K d) y1) h ?_
  intro y2 h
  refine cn_then ?_
  refine run_cond (v := y2.2.1) (by kernel_rfl) h ?_ ?_
  ·
    intro h
    refine run_seq ?_
    refine run_reg hm hT hC (race_check_g3 (race_check_K d) y2) h ?_
    intro y3 h
    refine cn_then ?_
    refine run_ret ?_
    refine cn_then_ret ?_
    cases h
    exact (hend _ (by kernel_rfl)).2
  ·
    intro h
    refine run_skip ?_
    refine cn_then ?_
    refine run_seq ?_
    refine run_seq ?_
    refine run_reg hm hT hC (race_check_g4 (race_check_K d) y2) h ?_
    intro y4 h
    refine cn_then ?_
    refine run_cond (v := y4.1) (by kernel_rfl) h ?_ ?_
    ·
      intro h
      refine run_seq ?_
      refine run_reg hm hT hC (race_check_g5 (race_check_K d) y4) h ?_
      intro y5 h
      refine cn_then ?_
      refine run_ret ?_
      refine cn_then_ret ?_
      cases h
      exact (hend _ (by kernel_rfl)).2
    ·
      intro h
      refine run_skip ?_
      refine cn_then ?_
      refine run_seq ?_
      refine run_seq ?_
      refine run_reg hm hT hC (race_check_g6 (race_check_K d) y4) h ?_
      intro y6 h
      refine cn_then ?_
      refine run_seq ?_
      refine run_reg hm hT hC (race_check_g7 (race_check_K d) y6) h ?_
      intro y7 h
      refine cn_then ?_
      refine run_cond (v := y7) (by kernel_rfl) h ?_ ?_
      ·
        intro h
        refine run_seq ?_
        refine run_reg hm hT hC (race_check_g8 (race_check_K d) y7) h ?_
        intro y8 h
        refine cn_then ?_
        refine run_ret ?_
        refine cn_then_ret ?_
        cases h
        exact (hend _ (by kernel_rfl)).2
      ·
        intro h
        refine run_skip ?_
        refine cn_then ?_
        refine run_seq ?_
        refine run_reg hm hT hC (race_check_g9 (race_check_K d) y7) h ?_
        intro y9 h
        refine cn_then ?_
        refine run_ret ?_
        cases h
        exact (hend _ (by kernel_rfl)).2
abbrev race_less_ps : List Pk := [.row Rii true, .row Rii true]
abbrev race_less_X : Type := Dii × Dii × Unit
abbrev race_less_R : Type := Bool
def race_less_enc (r : race_less_R) : LV × List Ob := (.bool r, [])
def race_less_sp (F : race_less_X → Option race_less_R) : Go.Tx.Spec := ⟨60, race_less_ps, race_less_R, F, race_less_enc⟩
abbrev race_less_C : Type := (ratio_Cmp_X → Option ratio_Cmp_R) × Unit
def race_less_K (d : Nat) : race_less_C := (F_ratio_Cmp d, ())
def race_less_tab (C : race_less_C) : List Go.Tx.Spec := [ratio_Cmp_sp C.1]
abbrev race_less_Y0i : Type := Int × Int × Int × Int
def race_less_S0i (v : race_less_Y0i) : St := ⟨[(0, .agg [.int .i64 v.1, .int .i64 v.2.1]), (1, .agg [.int .i64 v.2.2.1, .int .i64 v.2.2.2])], []⟩
abbrev race_less_Y0 : Type := Int × Int × Int × Int
def race_less_S0 (v : race_less_Y0) : St := ⟨[(2, .ptr 0 0), (3, .ptr 1 0)], [.cells [.int .i64 v.1, .int .i64 v.2.1], .cells [.int .i64 v.2.2.1, .int .i64 v.2.2.2]]⟩
def race_less_r0 (C : race_less_C) (v : race_less_Y0i) : Dt race_less_Y0 := (Dt.ret (v.1, v.2.1, v.2.2.1, v.2.2.2))
theorem race_less_g0 (C : race_less_C) (v : race_less_Y0i) : treg tysT (orc (race_less_tab C)) 15 (regO (bodyOf f60) 0) false [(2, .any), (3, .any)] (race_less_S0i v) some = (race_less_r0 C v).eval fun y => some (race_less_S0 y) := by kernel_rfl
abbrev race_less_Y1 : Type := Int
def race_less_S1 (v : race_less_Y1) : St := ⟨[(5, .int .i64 v)], []⟩
def race_less_r1 (C : race_less_C) (v : race_less_Y0) : Dt race_less_Y1 := (Dt.bnd (C.1 ((v.1, v.2.1, ()), (v.2.2.1, v.2.2.2, ()), ())) fun r1 => (Dt.ret r1.1))
theorem race_less_g1 (C : race_less_C) (v : race_less_Y0) : treg tysT (orc (race_less_tab C)) 15 (regO (bodyOf f60) 1) false [(5, .any)] (race_less_S0 v) some = (race_less_r1 C v).eval fun y => some (race_less_S1 y) := by kernel_rfl
abbrev race_less_Y2 : Type := Bool
def race_less_S2 (v : race_less_Y2) : St := ⟨[(4, .bool v)], []⟩
def race_less_r2 (C : race_less_C) (v : race_less_Y1) : Dt race_less_Y2 := (Dt.ret (decide (v < (0:Int))))
theorem race_less_g2 (C : race_less_C) (v : race_less_Y1) : treg tysT (orc (race_less_tab C)) 15 (regO (bodyOf f60) 2) false [(4, .any)] (race_less_S1 v) some = (race_less_r2 C v).eval fun y => some (race_less_S2 y) := by kernel_rfl
def F_race_less (d : Nat) (x : race_less_X) : Option race_less_R :=
  (race_less_r0 (race_less_K d) (x.1.1, x.1.2.1, x.2.1.1, x.2.1.2.1)).eval fun y0 =>
  (race_less_r1 (race_less_K d) y0).eval fun y1 =>
  (race_less_r2 (race_less_K d) y1).eval fun y2 =>
  some y2
theorem race_less_cok (d : Nat) : COK prog (race_less_sp (F_race_less d)) := by
  have hm : prog.follows .mixedOrders = true := mixed
  have hT := tys
  have hC0 : OrcOK prog (orc (race_less_tab (race_less_K d))) := orc_ok (by
    intro S hS
    simp only [race_less_tab, List.mem_cons, List.not_mem_nil, or_false] at hS
    subst hS; exact ratio_Cmp_cok d)
  have hC : OrcOK prog (orc (race_less_tab (race_less_K d))) := hC0
  refine cok_of (c := bodyOf f60) (fn := f60) hT (by kernel_rfl) (by kernel_rfl) (by decide) fun x r h w0 φ0 Q hend => ?_
  replace h : F_race_less d x = some r := h
  unfold F_race_less at h
  show Run prog w0 φ0 15 (bodyOf f60) ⟨[(0, .agg [.int .i64 x.1.1, .int .i64 x.1.2.1]), (1, .agg [.int .i64 x.2.1.1, .int .i64 x.2.1.2.1])], []⟩ Q
  refine run_seq ?_
  refine run_reg hm hT hC (race_less_g0 (race_less_K d) (x.1.1, x.1.2.1, x.2.1.1, x.2.1.2.1)) h ?_
  intro y0 h
  refine cn_then ?_
  refine run_seq ?_
  refine run_reg hm hT hC (race_less_g1 (race_less_K d) y0) h ?_
  intro y1 h
  refine cn_then ?_
  refine run_seq ?_
  refine run_reg hm hT hC (race_less_g2 (race_less_K d) y1) h ?_
  intro y2 h
  refine cn_then ?_
  refine run_ret ?_
  cases h
  exact (hend _ (by kernel_rfl)).2
abbrev race_Reigns_ps : List Pk := [.row RLiiiE true, .row Rii true, .row Rii true]
abbrev race_Reigns_X : Type := DLiiiE × Dii × Dii × Unit
abbrev race_Reigns_R : Type := List Diiiii × Int
def race_Reigns_enc (r : race_Reigns_R) : LV × List Ob := (.tup [.rs 0, .int .i64 r.2], [.rows Riiiii r.1])
def race_Reigns_sp (F : race_Reigns_X → Option race_Reigns_R) : Go.Tx.Spec := ⟨29, race_Reigns_ps, race_Reigns_R, F, race_Reigns_enc⟩
abbrev race_Reigns_C : Type := (crest_Of_X → Option crest_Of_R) × (race_check_X → Option race_check_R) × (race_less_X → Option race_less_R) × Unit
def race_Reigns_K (d : Nat) : race_Reigns_C := (F_crest_Of d, F_race_check d, F_race_less d, ())
def race_Reigns_tab (C : race_Reigns_C) : List Go.Tx.Spec := [crest_Of_sp C.1, race_check_sp C.2.1, race_less_sp C.2.2.1]
abbrev race_Reigns_Y0i : Type := List Diii × Int × Int × Int × Int
def race_Reigns_S0i (v : race_Reigns_Y0i) : St := ⟨[(0, .agg [.fz Riii v.1]), (1, .agg [.int .i64 v.2.1, .int .i64 v.2.2.1]), (2, .agg [.int .i64 v.2.2.2.1, .int .i64 v.2.2.2.2])], []⟩
abbrev race_Reigns_Y0 : Type := List Diii × Int × Int × Int × Int
def race_Reigns_S0 (v : race_Reigns_Y0) : St := ⟨[(3, .ptr 0 0), (4, .ptr 1 0), (5, .ptr 2 0)], [.cells [.fz Riii v.1], .cells [.int .i64 v.2.1, .int .i64 v.2.2.1], .cells [.int .i64 v.2.2.2.1, .int .i64 v.2.2.2.2]]⟩
def race_Reigns_r0 (C : race_Reigns_C) (v : race_Reigns_Y0i) : Dt race_Reigns_Y0 := (Dt.ret (v.1, v.2.1, v.2.2.1, v.2.2.2.1, v.2.2.2.2))
theorem race_Reigns_g0 (C : race_Reigns_C) (v : race_Reigns_Y0i) : treg tysT (orc (race_Reigns_tab C)) 62 (regO (bodyOf f29) 0) false [(3, (.box [.val Riii])), (4, .any), (5, .any)] (race_Reigns_S0i v) some = (race_Reigns_r0 C v).eval fun y => some (race_Reigns_S0 y) := by kernel_rfl
abbrev race_Reigns_Y1 : Type := Int × List Diii × Int × Int × Int × Int
def race_Reigns_S1 (v : race_Reigns_Y1) : St := ⟨[(3, .ptr 0 0), (4, .ptr 1 0), (5, .ptr 2 0), (8, .int .i64 v.1)], [.cells [.fz Riii v.2.1], .cells [.int .i64 v.2.2.1, .int .i64 v.2.2.2.1], .cells [.int .i64 v.2.2.2.2.1, .int .i64 v.2.2.2.2.2]]⟩
def race_Reigns_r1 (C : race_Reigns_C) (v : race_Reigns_Y0) : Dt race_Reigns_Y1 := (Dt.bnd (C.2.1 ((v.1, ()), (v.2.1, v.2.2.1, ()), (v.2.2.2.1, v.2.2.2.2, ()), ())) fun r1 => (Dt.ret (r1, v.1, v.2.1, v.2.2.1, v.2.2.2.1, v.2.2.2.2)))
theorem race_Reigns_g1 (C : race_Reigns_C) (v : race_Reigns_Y0) : treg tysT (orc (race_Reigns_tab C)) 62 (regO (bodyOf f29) 1) false [(3, (.box [.val Riii])), (4, .any), (5, .any), (8, .any)] (race_Reigns_S0 v) some = (race_Reigns_r1 C v).eval fun y => some (race_Reigns_S1 y) := by kernel_rfl
abbrev race_Reigns_Y2 : Type := Int × Bool × List Diii × Int × Int × Int × Int
def race_Reigns_S2 (v : race_Reigns_Y2) : St := ⟨[(3, .ptr 0 0), (4, .ptr 1 0), (5, .ptr 2 0), (8, .int .i64 v.1), (19, .bool v.2.1)], [.cells [.fz Riii v.2.2.1], .cells [.int .i64 v.2.2.2.1, .int .i64 v.2.2.2.2.1], .cells [.int .i64 v.2.2.2.2.2.1, .int .i64 v.2.2.2.2.2.2]]⟩
def race_Reigns_r2 (C : race_Reigns_C) (v : race_Reigns_Y1) : Dt race_Reigns_Y2 := (Dt.ret (v.1, (v.1 != (0:Int)), v.2.1, v.2.2.1, v.2.2.2.1, v.2.2.2.2.1, v.2.2.2.2.2))
theorem race_Reigns_g2 (C : race_Reigns_C) (v : race_Reigns_Y1) : treg tysT (orc (race_Reigns_tab C)) 62 (regO (bodyOf f29) 2) false [(3, (.box [.val Riii])), (4, .any), (5, .any), (8, .any), (19, .any)] (race_Reigns_S1 v) some = (race_Reigns_r2 C v).eval fun y => some (race_Reigns_S2 y) := by kernel_rfl
abbrev race_Reigns_Y3 : Type := Int × List Diiiii
def race_Reigns_S3 (v : race_Reigns_Y3) : St := ⟨[(6, .rs 0), (7, .int .i64 v.1)], [.rows Riiiii v.2]⟩
def race_Reigns_r3 (C : race_Reigns_C) (v : race_Reigns_Y2) : Dt race_Reigns_Y3 := (Dt.ret (v.1, ([] : List Diiiii)))
theorem race_Reigns_g3 (C : race_Reigns_C) (v : race_Reigns_Y2) : treg tysT (orc (race_Reigns_tab C)) 62 (regO (bodyOf f29) 3) false [(6, (.own Riiiii)), (7, .any)] (race_Reigns_S2 v) some = (race_Reigns_r3 C v).eval fun y => some (race_Reigns_S3 y) := by kernel_rfl
abbrev race_Reigns_Y4 : Type := Int × Int × Int × List Diii
def race_Reigns_S4 (v : race_Reigns_Y4) : St := ⟨[(5, .ptr 0 0), (9, .rs 1), (10, .int .i64 v.1)], [.cells [.int .i64 v.2.1, .int .i64 v.2.2.1], .rows Riii v.2.2.2]⟩
def race_Reigns_r4 (C : race_Reigns_C) (v : race_Reigns_Y2) : Dt race_Reigns_Y4 := (Dt.bnd (C.1 ((v.2.2.1, ()), (v.2.2.2.1, v.2.2.2.2.1, ()), ())) fun r1 => (Dt.ret (r1.2, v.2.2.2.2.2.1, v.2.2.2.2.2.2, r1.1)))
theorem race_Reigns_g4 (C : race_Reigns_C) (v : race_Reigns_Y2) : treg tysT (orc (race_Reigns_tab C)) 62 (regO (bodyOf f29) 4) false [(5, .any), (9, (.own Riii)), (10, .any)] (race_Reigns_S2 v) some = (race_Reigns_r4 C v).eval fun y => some (race_Reigns_S4 y) := by kernel_rfl
abbrev race_Reigns_Y5 : Type := Int × Bool × Int × Int × List Diii
def race_Reigns_S5 (v : race_Reigns_Y5) : St := ⟨[(5, .ptr 0 0), (9, .rs 1), (10, .int .i64 v.1), (28, .bool v.2.1)], [.cells [.int .i64 v.2.2.1, .int .i64 v.2.2.2.1], .rows Riii v.2.2.2.2]⟩
def race_Reigns_r5 (C : race_Reigns_C) (v : race_Reigns_Y4) : Dt race_Reigns_Y5 := (Dt.ret (v.1, (v.1 != (0:Int)), v.2.1, v.2.2.1, v.2.2.2))
theorem race_Reigns_g5 (C : race_Reigns_C) (v : race_Reigns_Y4) : treg tysT (orc (race_Reigns_tab C)) 62 (regO (bodyOf f29) 5) false [(5, .any), (9, (.own Riii)), (10, .any), (28, .any)] (race_Reigns_S4 v) some = (race_Reigns_r5 C v).eval fun y => some (race_Reigns_S5 y) := by kernel_rfl
def race_Reigns_r6 (C : race_Reigns_C) (v : race_Reigns_Y5) : Dt race_Reigns_Y3 := (Dt.ret (v.1, ([] : List Diiiii)))
theorem race_Reigns_g6 (C : race_Reigns_C) (v : race_Reigns_Y5) : treg tysT (orc (race_Reigns_tab C)) 62 (regO (bodyOf f29) 6) false [(6, (.own Riiiii)), (7, .any)] (race_Reigns_S5 v) some = (race_Reigns_r6 C v).eval fun y => some (race_Reigns_S3 y) := by kernel_rfl
abbrev race_Reigns_Y7 : Type := Int × Int × List Diii × List Diiiii
def race_Reigns_S7 (v : race_Reigns_Y7) : St := ⟨[(5, .ptr 0 0), (9, .rs 1), (11, .rs 2)], [.cells [.int .i64 v.1, .int .i64 v.2.1], .rows Riii v.2.2.1, .rows Riiiii v.2.2.2]⟩
def race_Reigns_r7 (C : race_Reigns_C) (v : race_Reigns_Y5) : Dt race_Reigns_Y7 := (Dt.ret (v.2.2.1, v.2.2.2.1, v.2.2.2.2, ([] : List Diiiii)))
theorem race_Reigns_g7 (C : race_Reigns_C) (v : race_Reigns_Y5) : treg tysT (orc (race_Reigns_tab C)) 62 (regO (bodyOf f29) 7) false [(5, .any), (9, (.own Riii)), (11, (.own Riiiii))] (race_Reigns_S5 v) some = (race_Reigns_r7 C v).eval fun y => some (race_Reigns_S7 y) := by kernel_rfl
abbrev race_Reigns_Y8 : Type := Int × Int × Int × Int × List Diiiii × List Diii
def race_Reigns_S8 (v : race_Reigns_Y8) : St := ⟨[(5, .ptr 0 0), (11, .rs 1), (30, .rs 2), (31, .int .i64 v.1), (32, .int .i64 v.2.1)], [.cells [.int .i64 v.2.2.1, .int .i64 v.2.2.2.1], .rows Riiiii v.2.2.2.2.1, .rows Riii v.2.2.2.2.2]⟩
def race_Reigns_r8 (C : race_Reigns_C) (v : race_Reigns_Y7) : Dt race_Reigns_Y8 := (Dt.ret ((List.length v.2.2.1 : Int), (0:Int), v.1, v.2.1, v.2.2.2, v.2.2.1))
theorem race_Reigns_g8 (C : race_Reigns_C) (v : race_Reigns_Y7) : treg tysT (orc (race_Reigns_tab C)) 62 (regO (bodyOf f29) 8) false [(5, .any), (11, (.own Riiiii)), (30, (.own Riii)), (31, .any), (32, .any)] (race_Reigns_S7 v) some = (race_Reigns_r8 C v).eval fun y => some (race_Reigns_S8 y) := by kernel_rfl
abbrev race_Reigns_Y9 : Type := Int × Int × Bool × Int × Int × List Diiiii × List Diii
def race_Reigns_S9 (v : race_Reigns_Y9) : St := ⟨[(5, .ptr 0 0), (11, .rs 1), (30, .rs 2), (31, .int .i64 v.1), (32, .int .i64 v.2.1), (33, .bool v.2.2.1)], [.cells [.int .i64 v.2.2.2.1, .int .i64 v.2.2.2.2.1], .rows Riiiii v.2.2.2.2.2.1, .rows Riii v.2.2.2.2.2.2]⟩
def race_Reigns_r9 (C : race_Reigns_C) (v : race_Reigns_Y8) : Dt race_Reigns_Y9 := (Dt.ret (v.1, v.2.1, (decide (v.2.1 < v.1)), v.2.2.1, v.2.2.2.1, v.2.2.2.2.1, v.2.2.2.2.2))
theorem race_Reigns_g9 (C : race_Reigns_C) (v : race_Reigns_Y8) : treg tysT (orc (race_Reigns_tab C)) 62 (regO (bodyOf f29) 9) false [(5, .any), (11, (.own Riiiii)), (30, (.own Riii)), (31, .any), (32, .any), (33, .any)] (race_Reigns_S8 v) some = (race_Reigns_r9 C v).eval fun y => some (race_Reigns_S9 y) := by kernel_rfl
abbrev race_Reigns_Y10 : Type := Int × Int × Int × Int × Int × List Diiiii × Int × Int × Int × List Diii
def race_Reigns_S10 (v : race_Reigns_Y10) : St := ⟨[(5, .ptr 0 0), (11, .rs 1), (12, .int .i64 v.1), (13, .ptr 2 0), (30, .rs 3), (31, .int .i64 v.2.1), (32, .int .i64 v.2.2.1)], [.cells [.int .i64 v.2.2.2.1, .int .i64 v.2.2.2.2.1], .rows Riiiii v.2.2.2.2.2.1, .cells [.int .i64 v.2.2.2.2.2.2.1, .int .i64 v.2.2.2.2.2.2.2.1, .int .i64 v.2.2.2.2.2.2.2.2.1], .rows Riii v.2.2.2.2.2.2.2.2.2]⟩
def race_Reigns_r10 (C : race_Reigns_C) (v : race_Reigns_Y9) : Dt race_Reigns_Y10 := (Dt.ite (inB v.2.1 (List.length v.2.2.2.2.2.2)) (Dt.ret (v.2.1, v.1, v.2.1, v.2.2.2.1, v.2.2.2.2.1, v.2.2.2.2.2.1, (elt ziii v.2.2.2.2.2.2 (v.2.1).toNat).1, (elt ziii v.2.2.2.2.2.2 (v.2.1).toNat).2.1, (elt ziii v.2.2.2.2.2.2 (v.2.1).toNat).2.2.1, v.2.2.2.2.2.2)) Dt.fail)
theorem race_Reigns_g10 (C : race_Reigns_C) (v : race_Reigns_Y9) : treg tysT (orc (race_Reigns_tab C)) 62 (regO (bodyOf f29) 10) false [(5, .any), (11, (.own Riiiii)), (12, .any), (13, .any), (30, (.own Riii)), (31, .any), (32, .any)] (race_Reigns_S9 v) some = (race_Reigns_r10 C v).eval fun y => some (race_Reigns_S10 y) := by kernel_rfl
abbrev race_Reigns_Y11 : Type := Int × Int × Int × Bool × Int × Int × List Diiiii × Int × Int × Int × List Diii
def race_Reigns_S11 (v : race_Reigns_Y11) : St := ⟨[(5, .ptr 0 0), (11, .rs 1), (12, .int .i64 v.1), (13, .ptr 2 0), (30, .rs 3), (31, .int .i64 v.2.1), (32, .int .i64 v.2.2.1), (38, .bool v.2.2.2.1)], [.cells [.int .i64 v.2.2.2.2.1, .int .i64 v.2.2.2.2.2.1], .rows Riiiii v.2.2.2.2.2.2.1, .cells [.int .i64 v.2.2.2.2.2.2.2.1, .int .i64 v.2.2.2.2.2.2.2.2.1, .int .i64 v.2.2.2.2.2.2.2.2.2.1], .rows Riii v.2.2.2.2.2.2.2.2.2.2]⟩
def race_Reigns_r11 (C : race_Reigns_C) (v : race_Reigns_Y10) : Dt race_Reigns_Y11 := (Dt.ret (v.1, v.2.1, v.2.2.1, (decide (v.1 > (0:Int))), v.2.2.2.1, v.2.2.2.2.1, v.2.2.2.2.2.1, v.2.2.2.2.2.2.1, v.2.2.2.2.2.2.2.1, v.2.2.2.2.2.2.2.2.1, v.2.2.2.2.2.2.2.2.2))
theorem race_Reigns_g11 (C : race_Reigns_C) (v : race_Reigns_Y10) : treg tysT (orc (race_Reigns_tab C)) 62 (regO (bodyOf f29) 11) false [(5, .any), (11, (.own Riiiii)), (12, .any), (13, .any), (30, (.own Riii)), (31, .any), (32, .any), (38, .any)] (race_Reigns_S10 v) some = (race_Reigns_r11 C v).eval fun y => some (race_Reigns_S11 y) := by kernel_rfl
abbrev race_Reigns_Y12 : Type := Int × Int × Int × Bool × Int × Int × List Diiiii × Int × Int × Int × List Diii
def race_Reigns_S12 (v : race_Reigns_Y12) : St := ⟨[(5, .ptr 0 0), (11, .rs 1), (12, .int .i64 v.1), (13, .ptr 2 0), (30, .rs 3), (31, .int .i64 v.2.1), (32, .int .i64 v.2.2.1), (43, .bool v.2.2.2.1)], [.cells [.int .i64 v.2.2.2.2.1, .int .i64 v.2.2.2.2.2.1], .rows Riiiii v.2.2.2.2.2.2.1, .cells [.int .i64 v.2.2.2.2.2.2.2.1, .int .i64 v.2.2.2.2.2.2.2.2.1, .int .i64 v.2.2.2.2.2.2.2.2.2.1], .rows Riii v.2.2.2.2.2.2.2.2.2.2]⟩
def race_Reigns_r12 (C : race_Reigns_C) (v : race_Reigns_Y11) : Dt race_Reigns_Y12 := (Dt.bnd (C.2.2.1 ((v.2.2.2.2.2.2.2.1, v.2.2.2.2.2.2.2.2.1, ()), (v.2.2.2.2.1, v.2.2.2.2.2.1, ()), ())) fun r1 => (Dt.ret (v.1, v.2.1, v.2.2.1, (!r1), v.2.2.2.2.1, v.2.2.2.2.2.1, v.2.2.2.2.2.2.1, v.2.2.2.2.2.2.2.1, v.2.2.2.2.2.2.2.2.1, v.2.2.2.2.2.2.2.2.2.1, v.2.2.2.2.2.2.2.2.2.2)))
theorem race_Reigns_g12 (C : race_Reigns_C) (v : race_Reigns_Y11) : treg tysT (orc (race_Reigns_tab C)) 62 (regO (bodyOf f29) 12) false [(5, .any), (11, (.own Riiiii)), (12, .any), (13, .any), (30, (.own Riii)), (31, .any), (32, .any), (43, .any)] (race_Reigns_S11 v) some = (race_Reigns_r12 C v).eval fun y => some (race_Reigns_S12 y) := by kernel_rfl
def race_Reigns_r16 (C : race_Reigns_C) (v : race_Reigns_Y8) : Dt race_Reigns_Y3 := (Dt.ret ((0:Int), v.2.2.2.2.1))
theorem race_Reigns_g16 (C : race_Reigns_C) (v : race_Reigns_Y8) : treg tysT (orc (race_Reigns_tab C)) 62 (regO (bodyOf f29) 16) false [(6, (.own Riiiii)), (7, .any)] (race_Reigns_S8 v) some = (race_Reigns_r16 C v).eval fun y => some (race_Reigns_S3 y) := by kernel_rfl
def race_Reigns_J1  (d : Nat)  (z : Int × Int × Int × Int × List Diiiii × List Diii) : Option (race_Reigns_R) :=
  (race_Reigns_r16 (race_Reigns_K d) z).eval fun y16 =>
  some (y16.2, y16.1)
abbrev race_Reigns_Y13 : Type := Int × Int × Int × Int × List Diiiii × Int × Int × Int × List Diii
def race_Reigns_S13 (v : race_Reigns_Y13) : St := ⟨[(5, .ptr 0 0), (11, .rs 1), (13, .ptr 2 0), (30, .rs 3), (31, .int .i64 v.1), (32, .int .i64 v.2.1)], [.cells [.int .i64 v.2.2.1, .int .i64 v.2.2.2.1], .rows Riiiii v.2.2.2.2.1, .cells [.int .i64 v.2.2.2.2.2.1, .int .i64 v.2.2.2.2.2.2.1, .int .i64 v.2.2.2.2.2.2.2.1], .rows Riii v.2.2.2.2.2.2.2.2]⟩
def race_Reigns_r13 (C : race_Reigns_C) (v : race_Reigns_Y12) : Dt race_Reigns_Y13 := (Dt.ite (inB (IntKind.wrap .i64 (v.1 - (1:Int))) (List.length v.2.2.2.2.2.2.1)) (Dt.ret (v.2.1, v.2.2.1, v.2.2.2.2.1, v.2.2.2.2.2.1, (List.set v.2.2.2.2.2.2.1 ((IntKind.wrap .i64 (v.1 - (1:Int)))).toNat ((elt ziiiii v.2.2.2.2.2.2.1 ((IntKind.wrap .i64 (v.1 - (1:Int)))).toNat).1, (elt ziiiii v.2.2.2.2.2.2.1 ((IntKind.wrap .i64 (v.1 - (1:Int)))).toNat).2.1, v.2.2.2.2.2.2.2.1, v.2.2.2.2.2.2.2.2.1, (elt ziiiii v.2.2.2.2.2.2.1 ((IntKind.wrap .i64 (v.1 - (1:Int)))).toNat).2.2.2.2.1, ())), v.2.2.2.2.2.2.2.1, v.2.2.2.2.2.2.2.2.1, v.2.2.2.2.2.2.2.2.2.1, v.2.2.2.2.2.2.2.2.2.2)) Dt.fail)
theorem race_Reigns_g13 (C : race_Reigns_C) (v : race_Reigns_Y12) : treg tysT (orc (race_Reigns_tab C)) 62 (regO (bodyOf f29) 13) false [(5, .any), (11, (.own Riiiii)), (13, .any), (30, (.own Riii)), (31, .any), (32, .any)] (race_Reigns_S12 v) some = (race_Reigns_r13 C v).eval fun y => some (race_Reigns_S13 y) := by kernel_rfl
def race_Reigns_r14 (C : race_Reigns_C) (v : race_Reigns_Y13) : Dt race_Reigns_Y8 := (Dt.ite (apB (List.length v.2.2.2.2.1) (List.length ([(v.2.2.2.2.2.1, v.2.2.2.2.2.2.1, v.2.2.1, v.2.2.2.1, v.2.2.2.2.2.2.2.1, ())] : List Diiiii))) (Dt.ret (v.1, v.2.1, v.2.2.1, v.2.2.2.1, (v.2.2.2.2.1 ++ ([(v.2.2.2.2.2.1, v.2.2.2.2.2.2.1, v.2.2.1, v.2.2.2.1, v.2.2.2.2.2.2.2.1, ())] : List Diiiii)), v.2.2.2.2.2.2.2.2)) Dt.fail)
theorem race_Reigns_g14 (C : race_Reigns_C) (v : race_Reigns_Y13) : treg tysT (orc (race_Reigns_tab C)) 62 (regO (bodyOf f29) 14) false [(5, .any), (11, (.own Riiiii)), (30, (.own Riii)), (31, .any), (32, .any)] (race_Reigns_S13 v) some = (race_Reigns_r14 C v).eval fun y => some (race_Reigns_S8 y) := by kernel_rfl
def race_Reigns_r15 (C : race_Reigns_C) (v : race_Reigns_Y8) : Dt race_Reigns_Y8 := (Dt.ret (v.1, (IntKind.wrap .i64 (v.2.1 + (1:Int))), v.2.2.1, v.2.2.2.1, v.2.2.2.2.1, v.2.2.2.2.2))
theorem race_Reigns_g15 (C : race_Reigns_C) (v : race_Reigns_Y8) : treg tysT (orc (race_Reigns_tab C)) 62 (regO (bodyOf f29) 15) false [(5, .any), (11, (.own Riiiii)), (30, (.own Riii)), (31, .any), (32, .any)] (race_Reigns_S8 v) some = (race_Reigns_r15 C v).eval fun y => some (race_Reigns_S8 y) := by kernel_rfl
def race_Reigns_J3  (d : Nat) (self2 : (Int × Int × Int × Int × List Diiiii × List Diii) → Option race_Reigns_R) (z : Int × Int × Int × Int × List Diiiii × Int × Int × Int × List Diii) : Option (race_Reigns_R) :=
  (race_Reigns_r14 (race_Reigns_K d) z).eval fun y14 =>
  (race_Reigns_r15 (race_Reigns_K d) y14).eval fun y15 =>
  self2 y15
def race_Reigns_L2 (d : Nat) (self2 : (Int × Int × Int × Int × List Diiiii × List Diii) → Option race_Reigns_R) (x2 : Int × Int × Int × Int × List Diiiii × List Diii) : Option race_Reigns_R :=
  (race_Reigns_r9 (race_Reigns_K d) x2).eval fun y9 =>
  bif y9.2.2.1 then ((race_Reigns_r10 (race_Reigns_K d) y9).eval fun y10 =>
  (race_Reigns_r11 (race_Reigns_K d) y10).eval fun y11 =>
  bif y11.2.2.2.1 then ((race_Reigns_r12 (race_Reigns_K d) y11).eval fun y12 =>
  bif y12.2.2.2.1 then (race_Reigns_J1 d  (y12.2.1, y12.2.2.1, y12.2.2.2.2.1, y12.2.2.2.2.2.1, y12.2.2.2.2.2.2.1, y12.2.2.2.2.2.2.2.2.2.2)) else ((race_Reigns_r13 (race_Reigns_K d) y12).eval fun y13 =>
  race_Reigns_J3 d self2 y13)) else (race_Reigns_J3 d self2 (y11.2.1, y11.2.2.1, y11.2.2.2.2.1, y11.2.2.2.2.2.1, y11.2.2.2.2.2.2.1, y11.2.2.2.2.2.2.2.1, y11.2.2.2.2.2.2.2.2.1, y11.2.2.2.2.2.2.2.2.2.1, y11.2.2.2.2.2.2.2.2.2.2))) else (race_Reigns_J1 d  (y9.1, y9.2.1, y9.2.2.2.1, y9.2.2.2.2.1, y9.2.2.2.2.2.1, y9.2.2.2.2.2.2))
def F_race_Reigns (d : Nat) (x : race_Reigns_X) : Option race_Reigns_R :=
  (race_Reigns_r0 (race_Reigns_K d) (x.1.1, x.2.1.1, x.2.1.2.1, x.2.2.1.1, x.2.2.1.2.1)).eval fun y0 =>
  (race_Reigns_r1 (race_Reigns_K d) y0).eval fun y1 =>
  (race_Reigns_r2 (race_Reigns_K d) y1).eval fun y2 =>
  bif y2.2.1 then ((race_Reigns_r3 (race_Reigns_K d) y2).eval fun y3 =>
  some (y3.2, y3.1)) else ((race_Reigns_r4 (race_Reigns_K d) y2).eval fun y4 =>
  (race_Reigns_r5 (race_Reigns_K d) y4).eval fun y5 =>
  bif y5.2.1 then ((race_Reigns_r6 (race_Reigns_K d) y5).eval fun y6 =>
  some (y6.2, y6.1)) else ((race_Reigns_r7 (race_Reigns_K d) y5).eval fun y7 =>
  (race_Reigns_r8 (race_Reigns_K d) y7).eval fun y8 =>
  iter (race_Reigns_L2 d ) d y8))
theorem race_Reigns_cok (d : Nat) : COK prog (race_Reigns_sp (F_race_Reigns d)) := by
  have hm : prog.follows .mixedOrders = true := mixed
  have hT := tys
  have hC0 : OrcOK prog (orc (race_Reigns_tab (race_Reigns_K d))) := orc_ok (by
    intro S hS
    simp only [race_Reigns_tab, List.mem_cons, List.not_mem_nil, or_false] at hS
    rcases hS with rfl | rfl | rfl
    · exact crest_Of_cok d
    · exact race_check_cok d
    · exact race_less_cok d)
  have hC : OrcOK prog (orc (race_Reigns_tab (race_Reigns_K d))) := hC0
  refine cok_of (c := bodyOf f29) (fn := f29) hT (by kernel_rfl) (by kernel_rfl) (by decide) fun x r h w0 φ0 Q hend => ?_
  replace h : F_race_Reigns d x = some r := h
  unfold F_race_Reigns at h
  show Run prog w0 φ0 62 (bodyOf f29) ⟨[(0, .agg [.fz Riii x.1.1]), (1, .agg [.int .i64 x.2.1.1, .int .i64 x.2.1.2.1]), (2, .agg [.int .i64 x.2.2.1.1, .int .i64 x.2.2.1.2.1])], []⟩ Q
  refine run_seq ?_
  refine run_reg hm hT hC (race_Reigns_g0 (race_Reigns_K d) (x.1.1, x.2.1.1, x.2.1.2.1, x.2.2.1.1, x.2.2.1.2.1)) h ?_
  intro y0 h
  refine cn_then ?_
  refine run_seq ?_
  refine run_seq ?_
  refine run_reg hm hT hC (race_Reigns_g1 (race_Reigns_K d) y0) h ?_
  intro y1 h
  refine cn_then ?_
  refine run_seq ?_
  refine run_reg hm hT hC (race_Reigns_g2 (race_Reigns_K d) y1) h ?_
  intro y2 h
  refine cn_then ?_
  refine run_cond (v := y2.2.1) (by kernel_rfl) h ?_ ?_
  ·
    intro h
    refine run_seq ?_
    refine run_reg hm hT hC (race_Reigns_g3 (race_Reigns_K d) y2) h ?_
    intro y3 h
    refine cn_then ?_
    refine run_ret ?_
    refine cn_then_ret ?_
    cases h
    exact (hend _ (by kernel_rfl)).2
  ·
    intro h
    refine run_skip ?_
    refine cn_then ?_
    refine run_seq ?_
    refine run_reg hm hT hC (race_Reigns_g4 (race_Reigns_K d) y2) h ?_
    intro y4 h
    refine cn_then ?_
    refine run_seq ?_
    refine run_seq ?_
    refine run_reg hm hT hC (race_Reigns_g5 (race_Reigns_K d) y4) h ?_
    intro y5 h
    refine cn_then ?_
    refine run_cond (v := y5.2.1) (by kernel_rfl) h ?_ ?_
    ·
      intro h
      refine run_seq ?_
      refine run_reg hm hT hC (race_Reigns_g6 (race_Reigns_K d) y5) h ?_
      intro y6 h
      refine cn_then ?_
      refine run_ret ?_
      refine cn_then_ret ?_
      cases h
      exact (hend _ (by kernel_rfl)).2
    ·
      intro h
      refine run_skip ?_
      refine cn_then ?_
      refine run_seq ?_
      refine run_reg hm hT hC (race_Reigns_g7 (race_Reigns_K d) y5) h ?_
      intro y7 h
      refine cn_then ?_
      refine run_join (r := r) (F := race_Reigns_J1 d ) (S := (fun z => ⟨[(5, .ptr 0 0), (11, .rs 1), (30, .rs 2), (31, .int .i64 z.1), (32, .int .i64 z.2.1)], [.cells [.int .i64 z.2.2.1, .int .i64 z.2.2.2.1], .rows Riiiii z.2.2.2.2.1, .rows Riii z.2.2.2.2.2]⟩ : Int × Int × Int × Int × List Diiiii × List Diii → St)) ?_ ?_
      ·
        intro z h
        unfold race_Reigns_J1 at h
        refine run_seq ?_
        refine run_reg hm hT hC (race_Reigns_g16 (race_Reigns_K d) z) h ?_
        intro y16 h
        refine cn_then ?_
        refine run_ret ?_
        cases h
        exact (hend _ (by kernel_rfl)).2
      intro hj1
      refine run_seq ?_
      refine run_reg hm hT hC (race_Reigns_g8 (race_Reigns_K d) y7) h ?_
      intro y8 h
      refine cn_then ?_
      refine run_block ?_
      refine run_loop (G := iter (race_Reigns_L2 d )) (S := (fun x2 => ⟨[(5, .ptr 0 0), (11, .rs 1), (30, .rs 2), (31, .int .i64 x2.1), (32, .int .i64 x2.2.1)], [.cells [.int .i64 x2.2.2.1, .int .i64 x2.2.2.2.1], .rows Riiiii x2.2.2.2.2.1, .rows Riii x2.2.2.2.2.2]⟩ : Int × Int × Int × Int × List Diiiii × List Diii → St)) (fun _ => rfl) ?_ d _ h
      intro n2 x2 h K2 hn2
      replace h : race_Reigns_L2 d  (iter (race_Reigns_L2 d ) n2) x2 = some r := h
      generalize iter (race_Reigns_L2 d ) n2 = self2 at h hn2
      unfold race_Reigns_L2 at h
      refine run_seq ?_
      refine run_reg hm hT hC (race_Reigns_g9 (race_Reigns_K d) x2) h ?_
      intro y9 h
      refine cn_then ?_
      refine run_seq ?_
      refine run_cond (v := y9.2.2.1) (by kernel_rfl) h ?_ ?_
      ·
        intro h
        refine run_skip ?_
        refine cn_then ?_
        refine run_seq ?_
        refine run_block ?_
        refine run_seq ?_
        refine run_reg hm hT hC (race_Reigns_g10 (race_Reigns_K d) y9) h ?_
        intro y10 h
        refine cn_then ?_
        refine run_join (r := r) (F := race_Reigns_J3 d self2) (S := (fun z => ⟨[(5, .ptr 0 0), (11, .rs 1), (13, .ptr 2 0), (30, .rs 3), (31, .int .i64 z.1), (32, .int .i64 z.2.1)], [.cells [.int .i64 z.2.2.1, .int .i64 z.2.2.2.1], .rows Riiiii z.2.2.2.2.1, .cells [.int .i64 z.2.2.2.2.2.1, .int .i64 z.2.2.2.2.2.2.1, .int .i64 z.2.2.2.2.2.2.2.1], .rows Riii z.2.2.2.2.2.2.2.2]⟩ : Int × Int × Int × Int × List Diiiii × Int × Int × Int × List Diii → St)) ?_ ?_
        ·
          intro z h
          unfold race_Reigns_J3 at h
          refine run_reg hm hT hC (race_Reigns_g14 (race_Reigns_K d) z) h ?_
          intro y14 h
          refine cn_blk ?_
          refine cn_then ?_
          refine run_reg hm hT hC (race_Reigns_g15 (race_Reigns_K d) y14) h ?_
          intro y15 h
          exact hn2 _ h
        intro hj3
        refine run_seq ?_
        refine run_reg hm hT hC (race_Reigns_g11 (race_Reigns_K d) y10) h ?_
        intro y11 h
        refine cn_then ?_
        refine run_cond (v := y11.2.2.2.1) (by kernel_rfl) h ?_ ?_
        ·
          intro h
          refine run_seq ?_
          refine run_seq ?_
          refine run_reg hm hT hC (race_Reigns_g12 (race_Reigns_K d) y11) h ?_
          intro y12 h
          refine cn_then ?_
          refine run_cond (v := y12.2.2.2.1) (by kernel_rfl) h ?_ ?_
          ·
            intro h
            refine run_exit ?_
            refine cn_then_exit ?_
            refine cn_then_exit ?_
            refine cn_blk_ne (by rfl) ?_
            refine cn_then_exit ?_
            refine cn_then_exit ?_
            refine cn_blk_eq ?_
            refine cn_num (s := ⟨[(5, .ptr 0 0), (11, .rs 1), (30, .rs 2), (31, .int .i64 y12.2.1), (32, .int .i64 y12.2.2.1)], [.cells [.int .i64 y12.2.2.2.2.1, .int .i64 y12.2.2.2.2.2.1], .rows Riiiii y12.2.2.2.2.2.2.1, .rows Riii y12.2.2.2.2.2.2.2.2.2.2]⟩) [12, 13, 43] (by kernel_rfl) ?_
            exact hj1 _ h
          ·
            intro h
            refine run_skip ?_
            refine cn_then ?_
            refine run_reg hm hT hC (race_Reigns_g13 (race_Reigns_K d) y12) h ?_
            intro y13 h
            exact hj3 _ h
        ·
          intro h
          refine run_skip ?_
          refine cn_num (s := ⟨[(5, .ptr 0 0), (11, .rs 1), (13, .ptr 2 0), (30, .rs 3), (31, .int .i64 y11.2.1), (32, .int .i64 y11.2.2.1)], [.cells [.int .i64 y11.2.2.2.2.1, .int .i64 y11.2.2.2.2.2.1], .rows Riiiii y11.2.2.2.2.2.2.1, .cells [.int .i64 y11.2.2.2.2.2.2.2.1, .int .i64 y11.2.2.2.2.2.2.2.2.1, .int .i64 y11.2.2.2.2.2.2.2.2.2.1], .rows Riii y11.2.2.2.2.2.2.2.2.2.2]⟩) [12, 38] (by kernel_rfl) ?_
          exact hj3 _ h
      ·
        intro h
        refine run_exit ?_
        refine cn_then_exit ?_
        refine cn_then_exit ?_
        refine cn_blk_eq ?_
        refine cn_num (s := ⟨[(5, .ptr 0 0), (11, .rs 1), (30, .rs 2), (31, .int .i64 y9.1), (32, .int .i64 y9.2.1)], [.cells [.int .i64 y9.2.2.2.1, .int .i64 y9.2.2.2.2.1], .rows Riiiii y9.2.2.2.2.2.1, .rows Riii y9.2.2.2.2.2.2]⟩) [33] (by kernel_rfl) ?_
        exact hj1 _ h
abbrev race_Laps_ps : List Pk := [.row RLiiiE true, .row Rii true, .row Rii true]
abbrev race_Laps_X : Type := DLiiiE × Dii × Dii × Unit
abbrev race_Laps_R : Type := Int × Int
def race_Laps_enc (r : race_Laps_R) : LV × List Ob := (.tup [.int .i64 r.1, .int .i64 r.2], [])
def race_Laps_sp (F : race_Laps_X → Option race_Laps_R) : Go.Tx.Spec := ⟨31, race_Laps_ps, race_Laps_R, F, race_Laps_enc⟩
abbrev race_Laps_C : Type := (crest_Of_X → Option crest_Of_R) × (race_check_X → Option race_check_R) × (race_less_X → Option race_less_R) × Unit
def race_Laps_K (d : Nat) : race_Laps_C := (F_crest_Of d, F_race_check d, F_race_less d, ())
def race_Laps_tab (C : race_Laps_C) : List Go.Tx.Spec := [crest_Of_sp C.1, race_check_sp C.2.1, race_less_sp C.2.2.1]
abbrev race_Laps_Y0i : Type := List Diii × Int × Int × Int × Int
def race_Laps_S0i (v : race_Laps_Y0i) : St := ⟨[(0, .agg [.fz Riii v.1]), (1, .agg [.int .i64 v.2.1, .int .i64 v.2.2.1]), (2, .agg [.int .i64 v.2.2.2.1, .int .i64 v.2.2.2.2])], []⟩
abbrev race_Laps_Y0 : Type := List Diii × Int × Int × Int × Int
def race_Laps_S0 (v : race_Laps_Y0) : St := ⟨[(3, .ptr 0 0), (4, .ptr 1 0), (5, .ptr 2 0)], [.cells [.fz Riii v.1], .cells [.int .i64 v.2.1, .int .i64 v.2.2.1], .cells [.int .i64 v.2.2.2.1, .int .i64 v.2.2.2.2]]⟩
def race_Laps_r0 (C : race_Laps_C) (v : race_Laps_Y0i) : Dt race_Laps_Y0 := (Dt.ret (v.1, v.2.1, v.2.2.1, v.2.2.2.1, v.2.2.2.2))
theorem race_Laps_g0 (C : race_Laps_C) (v : race_Laps_Y0i) : treg tysT (orc (race_Laps_tab C)) 46 (regO (bodyOf f31) 0) false [(3, (.box [.val Riii])), (4, .any), (5, .any)] (race_Laps_S0i v) some = (race_Laps_r0 C v).eval fun y => some (race_Laps_S0 y) := by kernel_rfl
abbrev race_Laps_Y1 : Type := Int × List Diii × Int × Int × Int × Int
def race_Laps_S1 (v : race_Laps_Y1) : St := ⟨[(3, .ptr 0 0), (4, .ptr 1 0), (5, .ptr 2 0), (8, .int .i64 v.1)], [.cells [.fz Riii v.2.1], .cells [.int .i64 v.2.2.1, .int .i64 v.2.2.2.1], .cells [.int .i64 v.2.2.2.2.1, .int .i64 v.2.2.2.2.2]]⟩
def race_Laps_r1 (C : race_Laps_C) (v : race_Laps_Y0) : Dt race_Laps_Y1 := (Dt.bnd (C.2.1 ((v.1, ()), (v.2.1, v.2.2.1, ()), (v.2.2.2.1, v.2.2.2.2, ()), ())) fun r1 => (Dt.ret (r1, v.1, v.2.1, v.2.2.1, v.2.2.2.1, v.2.2.2.2)))
theorem race_Laps_g1 (C : race_Laps_C) (v : race_Laps_Y0) : treg tysT (orc (race_Laps_tab C)) 46 (regO (bodyOf f31) 1) false [(3, (.box [.val Riii])), (4, .any), (5, .any), (8, .any)] (race_Laps_S0 v) some = (race_Laps_r1 C v).eval fun y => some (race_Laps_S1 y) := by kernel_rfl
abbrev race_Laps_Y2 : Type := Int × Bool × List Diii × Int × Int × Int × Int
def race_Laps_S2 (v : race_Laps_Y2) : St := ⟨[(3, .ptr 0 0), (4, .ptr 1 0), (5, .ptr 2 0), (8, .int .i64 v.1), (19, .bool v.2.1)], [.cells [.fz Riii v.2.2.1], .cells [.int .i64 v.2.2.2.1, .int .i64 v.2.2.2.2.1], .cells [.int .i64 v.2.2.2.2.2.1, .int .i64 v.2.2.2.2.2.2]]⟩
def race_Laps_r2 (C : race_Laps_C) (v : race_Laps_Y1) : Dt race_Laps_Y2 := (Dt.ret (v.1, (v.1 != (0:Int)), v.2.1, v.2.2.1, v.2.2.2.1, v.2.2.2.2.1, v.2.2.2.2.2))
theorem race_Laps_g2 (C : race_Laps_C) (v : race_Laps_Y1) : treg tysT (orc (race_Laps_tab C)) 46 (regO (bodyOf f31) 2) false [(3, (.box [.val Riii])), (4, .any), (5, .any), (8, .any), (19, .any)] (race_Laps_S1 v) some = (race_Laps_r2 C v).eval fun y => some (race_Laps_S2 y) := by kernel_rfl
abbrev race_Laps_Y3 : Type := Int × Int
def race_Laps_S3 (v : race_Laps_Y3) : St := ⟨[(6, .int .i64 v.1), (7, .int .i64 v.2)], []⟩
def race_Laps_r3 (C : race_Laps_C) (v : race_Laps_Y2) : Dt race_Laps_Y3 := (Dt.ret ((0:Int), v.1))
theorem race_Laps_g3 (C : race_Laps_C) (v : race_Laps_Y2) : treg tysT (orc (race_Laps_tab C)) 46 (regO (bodyOf f31) 3) false [(6, .any), (7, .any)] (race_Laps_S2 v) some = (race_Laps_r3 C v).eval fun y => some (race_Laps_S3 y) := by kernel_rfl
abbrev race_Laps_Y4 : Type := Int × Int × Int × List Diii
def race_Laps_S4 (v : race_Laps_Y4) : St := ⟨[(5, .ptr 0 0), (9, .rs 1), (10, .int .i64 v.1)], [.cells [.int .i64 v.2.1, .int .i64 v.2.2.1], .rows Riii v.2.2.2]⟩
def race_Laps_r4 (C : race_Laps_C) (v : race_Laps_Y2) : Dt race_Laps_Y4 := (Dt.bnd (C.1 ((v.2.2.1, ()), (v.2.2.2.1, v.2.2.2.2.1, ()), ())) fun r1 => (Dt.ret (r1.2, v.2.2.2.2.2.1, v.2.2.2.2.2.2, r1.1)))
theorem race_Laps_g4 (C : race_Laps_C) (v : race_Laps_Y2) : treg tysT (orc (race_Laps_tab C)) 46 (regO (bodyOf f31) 4) false [(5, .any), (9, (.own Riii)), (10, .any)] (race_Laps_S2 v) some = (race_Laps_r4 C v).eval fun y => some (race_Laps_S4 y) := by kernel_rfl
abbrev race_Laps_Y5 : Type := Int × Bool × Int × Int × List Diii
def race_Laps_S5 (v : race_Laps_Y5) : St := ⟨[(5, .ptr 0 0), (9, .rs 1), (10, .int .i64 v.1), (28, .bool v.2.1)], [.cells [.int .i64 v.2.2.1, .int .i64 v.2.2.2.1], .rows Riii v.2.2.2.2]⟩
def race_Laps_r5 (C : race_Laps_C) (v : race_Laps_Y4) : Dt race_Laps_Y5 := (Dt.ret (v.1, (v.1 != (0:Int)), v.2.1, v.2.2.1, v.2.2.2))
theorem race_Laps_g5 (C : race_Laps_C) (v : race_Laps_Y4) : treg tysT (orc (race_Laps_tab C)) 46 (regO (bodyOf f31) 5) false [(5, .any), (9, (.own Riii)), (10, .any), (28, .any)] (race_Laps_S4 v) some = (race_Laps_r5 C v).eval fun y => some (race_Laps_S5 y) := by kernel_rfl
def race_Laps_r6 (C : race_Laps_C) (v : race_Laps_Y5) : Dt race_Laps_Y3 := (Dt.ret ((0:Int), v.1))
theorem race_Laps_g6 (C : race_Laps_C) (v : race_Laps_Y5) : treg tysT (orc (race_Laps_tab C)) 46 (regO (bodyOf f31) 6) false [(6, .any), (7, .any)] (race_Laps_S5 v) some = (race_Laps_r6 C v).eval fun y => some (race_Laps_S3 y) := by kernel_rfl
abbrev race_Laps_Y7 : Type := Int × Int × Int × List Diii
def race_Laps_S7 (v : race_Laps_Y7) : St := ⟨[(5, .ptr 0 0), (9, .rs 1), (11, .int .i64 v.1)], [.cells [.int .i64 v.2.1, .int .i64 v.2.2.1], .rows Riii v.2.2.2]⟩
def race_Laps_r7 (C : race_Laps_C) (v : race_Laps_Y5) : Dt race_Laps_Y7 := (Dt.ret ((0:Int), v.2.2.1, v.2.2.2.1, v.2.2.2.2))
theorem race_Laps_g7 (C : race_Laps_C) (v : race_Laps_Y5) : treg tysT (orc (race_Laps_tab C)) 46 (regO (bodyOf f31) 7) false [(5, .any), (9, (.own Riii)), (11, .any)] (race_Laps_S5 v) some = (race_Laps_r7 C v).eval fun y => some (race_Laps_S7 y) := by kernel_rfl
abbrev race_Laps_Y8 : Type := Int × List Diii × Int × Int × Int × Int
def race_Laps_S8 (v : race_Laps_Y8) : St := ⟨[(5, .ptr 0 0), (11, .int .i64 v.1), (31, .fz Riii v.2.1), (32, .int .i64 v.2.2.1), (33, .int .i64 v.2.2.2.1)], [.cells [.int .i64 v.2.2.2.2.1, .int .i64 v.2.2.2.2.2]]⟩
def race_Laps_r8 (C : race_Laps_C) (v : race_Laps_Y7) : Dt race_Laps_Y8 := (Dt.ite (decide (0 ≤ (1:Int)) && decide ((1:Int) ≤ (List.length v.2.2.2 : Int))) (Dt.ret (v.1, (List.drop ((1:Int)).toNat v.2.2.2), (List.length (List.drop ((1:Int)).toNat v.2.2.2) : Int), (0:Int), v.2.1, v.2.2.1)) Dt.fail)
theorem race_Laps_g8 (C : race_Laps_C) (v : race_Laps_Y7) : treg tysT (orc (race_Laps_tab C)) 46 (regO (bodyOf f31) 8) false [(5, .any), (11, .any), (31, (.val Riii)), (32, .any), (33, .any)] (race_Laps_S7 v) some = (race_Laps_r8 C v).eval fun y => some (race_Laps_S8 y) := by kernel_rfl
abbrev race_Laps_Y9 : Type := Int × List Diii × Int × Int × Bool × Int × Int
def race_Laps_S9 (v : race_Laps_Y9) : St := ⟨[(5, .ptr 0 0), (11, .int .i64 v.1), (31, .fz Riii v.2.1), (32, .int .i64 v.2.2.1), (33, .int .i64 v.2.2.2.1), (34, .bool v.2.2.2.2.1)], [.cells [.int .i64 v.2.2.2.2.2.1, .int .i64 v.2.2.2.2.2.2]]⟩
def race_Laps_r9 (C : race_Laps_C) (v : race_Laps_Y8) : Dt race_Laps_Y9 := (Dt.ret (v.1, v.2.1, v.2.2.1, v.2.2.2.1, (decide (v.2.2.2.1 < v.2.2.1)), v.2.2.2.2.1, v.2.2.2.2.2))
theorem race_Laps_g9 (C : race_Laps_C) (v : race_Laps_Y8) : treg tysT (orc (race_Laps_tab C)) 46 (regO (bodyOf f31) 9) false [(5, .any), (11, .any), (31, (.val Riii)), (32, .any), (33, .any), (34, .any)] (race_Laps_S8 v) some = (race_Laps_r9 C v).eval fun y => some (race_Laps_S9 y) := by kernel_rfl
abbrev race_Laps_Y10 : Type := Int × List Diii × Int × Int × Int × Int × Int × Int × Int
def race_Laps_S10 (v : race_Laps_Y10) : St := ⟨[(5, .ptr 0 0), (11, .int .i64 v.1), (13, .ptr 1 0), (31, .fz Riii v.2.1), (32, .int .i64 v.2.2.1), (33, .int .i64 v.2.2.2.1)], [.cells [.int .i64 v.2.2.2.2.1, .int .i64 v.2.2.2.2.2.1], .cells [.int .i64 v.2.2.2.2.2.2.1, .int .i64 v.2.2.2.2.2.2.2.1, .int .i64 v.2.2.2.2.2.2.2.2]]⟩
def race_Laps_r10 (C : race_Laps_C) (v : race_Laps_Y9) : Dt race_Laps_Y10 := (Dt.ite (inB v.2.2.2.1 (List.length v.2.1)) (Dt.ret (v.1, v.2.1, v.2.2.1, v.2.2.2.1, v.2.2.2.2.2.1, v.2.2.2.2.2.2, (elt ziii v.2.1 (v.2.2.2.1).toNat).1, (elt ziii v.2.1 (v.2.2.2.1).toNat).2.1, (elt ziii v.2.1 (v.2.2.2.1).toNat).2.2.1)) Dt.fail)
theorem race_Laps_g10 (C : race_Laps_C) (v : race_Laps_Y9) : treg tysT (orc (race_Laps_tab C)) 46 (regO (bodyOf f31) 10) false [(5, .any), (11, .any), (13, .any), (31, (.val Riii)), (32, .any), (33, .any)] (race_Laps_S9 v) some = (race_Laps_r10 C v).eval fun y => some (race_Laps_S10 y) := by kernel_rfl
abbrev race_Laps_Y11 : Type := Int × List Diii × Int × Int × Bool × Int × Int
def race_Laps_S11 (v : race_Laps_Y11) : St := ⟨[(5, .ptr 0 0), (11, .int .i64 v.1), (31, .fz Riii v.2.1), (32, .int .i64 v.2.2.1), (33, .int .i64 v.2.2.2.1), (41, .bool v.2.2.2.2.1)], [.cells [.int .i64 v.2.2.2.2.2.1, .int .i64 v.2.2.2.2.2.2]]⟩
def race_Laps_r11 (C : race_Laps_C) (v : race_Laps_Y10) : Dt race_Laps_Y11 := (Dt.bnd (C.2.2.1 ((v.2.2.2.2.1, v.2.2.2.2.2.1, ()), (v.2.2.2.2.2.2.1, v.2.2.2.2.2.2.2.1, ()), ())) fun r1 => (Dt.ret (v.1, v.2.1, v.2.2.1, v.2.2.2.1, (!r1), v.2.2.2.2.1, v.2.2.2.2.2.1)))
theorem race_Laps_g11 (C : race_Laps_C) (v : race_Laps_Y10) : treg tysT (orc (race_Laps_tab C)) 46 (regO (bodyOf f31) 11) false [(5, .any), (11, .any), (31, (.val Riii)), (32, .any), (33, .any), (41, .any)] (race_Laps_S10 v) some = (race_Laps_r11 C v).eval fun y => some (race_Laps_S11 y) := by kernel_rfl
def race_Laps_r12 (C : race_Laps_C) (v : race_Laps_Y11) : Dt race_Laps_Y8 := (Dt.ret ((IntKind.wrap .i64 (v.1 + (1:Int))), v.2.1, v.2.2.1, v.2.2.2.1, v.2.2.2.2.2.1, v.2.2.2.2.2.2))
theorem race_Laps_g12 (C : race_Laps_C) (v : race_Laps_Y11) : treg tysT (orc (race_Laps_tab C)) 46 (regO (bodyOf f31) 12) false [(5, .any), (11, .any), (31, (.val Riii)), (32, .any), (33, .any)] (race_Laps_S11 v) some = (race_Laps_r12 C v).eval fun y => some (race_Laps_S8 y) := by kernel_rfl
def race_Laps_r13 (C : race_Laps_C) (v : race_Laps_Y8) : Dt race_Laps_Y8 := (Dt.ret (v.1, v.2.1, v.2.2.1, (IntKind.wrap .i64 (v.2.2.2.1 + (1:Int))), v.2.2.2.2.1, v.2.2.2.2.2))
theorem race_Laps_g13 (C : race_Laps_C) (v : race_Laps_Y8) : treg tysT (orc (race_Laps_tab C)) 46 (regO (bodyOf f31) 13) false [(5, .any), (11, .any), (31, (.val Riii)), (32, .any), (33, .any)] (race_Laps_S8 v) some = (race_Laps_r13 C v).eval fun y => some (race_Laps_S8 y) := by kernel_rfl
def race_Laps_J2  (d : Nat) (self1 : (Int × List Diii × Int × Int × Int × Int) → Option race_Laps_R) (z : Int × List Diii × Int × Int × Int × Int) : Option (race_Laps_R) :=
  (race_Laps_r13 (race_Laps_K d) z).eval fun y13 =>
  self1 y13
def race_Laps_r14 (C : race_Laps_C) (v : race_Laps_Y9) : Dt race_Laps_Y3 := (Dt.ret (v.1, (0:Int)))
theorem race_Laps_g14 (C : race_Laps_C) (v : race_Laps_Y9) : treg tysT (orc (race_Laps_tab C)) 46 (regO (bodyOf f31) 14) false [(6, .any), (7, .any)] (race_Laps_S9 v) some = (race_Laps_r14 C v).eval fun y => some (race_Laps_S3 y) := by kernel_rfl
def race_Laps_L1 (d : Nat) (self1 : (Int × List Diii × Int × Int × Int × Int) → Option race_Laps_R) (x1 : Int × List Diii × Int × Int × Int × Int) : Option race_Laps_R :=
  (race_Laps_r9 (race_Laps_K d) x1).eval fun y9 =>
  bif y9.2.2.2.2.1 then ((race_Laps_r10 (race_Laps_K d) y9).eval fun y10 =>
  (race_Laps_r11 (race_Laps_K d) y10).eval fun y11 =>
  bif y11.2.2.2.2.1 then ((race_Laps_r12 (race_Laps_K d) y11).eval fun y12 =>
  race_Laps_J2 d self1 y12) else (race_Laps_J2 d self1 (y11.1, y11.2.1, y11.2.2.1, y11.2.2.2.1, y11.2.2.2.2.2.1, y11.2.2.2.2.2.2))) else ((race_Laps_r14 (race_Laps_K d) y9).eval fun y14 =>
  some y14)
def F_race_Laps (d : Nat) (x : race_Laps_X) : Option race_Laps_R :=
  (race_Laps_r0 (race_Laps_K d) (x.1.1, x.2.1.1, x.2.1.2.1, x.2.2.1.1, x.2.2.1.2.1)).eval fun y0 =>
  (race_Laps_r1 (race_Laps_K d) y0).eval fun y1 =>
  (race_Laps_r2 (race_Laps_K d) y1).eval fun y2 =>
  bif y2.2.1 then ((race_Laps_r3 (race_Laps_K d) y2).eval fun y3 =>
  some y3) else ((race_Laps_r4 (race_Laps_K d) y2).eval fun y4 =>
  (race_Laps_r5 (race_Laps_K d) y4).eval fun y5 =>
  bif y5.2.1 then ((race_Laps_r6 (race_Laps_K d) y5).eval fun y6 =>
  some y6) else ((race_Laps_r7 (race_Laps_K d) y5).eval fun y7 =>
  (race_Laps_r8 (race_Laps_K d) y7).eval fun y8 =>
  iter (race_Laps_L1 d ) d y8))
theorem race_Laps_cok (d : Nat) : COK prog (race_Laps_sp (F_race_Laps d)) := by
  have hm : prog.follows .mixedOrders = true := mixed
  have hT := tys
  have hC0 : OrcOK prog (orc (race_Laps_tab (race_Laps_K d))) := orc_ok (by
    intro S hS
    simp only [race_Laps_tab, List.mem_cons, List.not_mem_nil, or_false] at hS
    rcases hS with rfl | rfl | rfl
    · exact crest_Of_cok d
    · exact race_check_cok d
    · exact race_less_cok d)
  have hC : OrcOK prog (orc (race_Laps_tab (race_Laps_K d))) := hC0
  refine cok_of (c := bodyOf f31) (fn := f31) hT (by kernel_rfl) (by kernel_rfl) (by decide) fun x r h w0 φ0 Q hend => ?_
  replace h : F_race_Laps d x = some r := h
  unfold F_race_Laps at h
  show Run prog w0 φ0 46 (bodyOf f31) ⟨[(0, .agg [.fz Riii x.1.1]), (1, .agg [.int .i64 x.2.1.1, .int .i64 x.2.1.2.1]), (2, .agg [.int .i64 x.2.2.1.1, .int .i64 x.2.2.1.2.1])], []⟩ Q
  refine run_seq ?_
  refine run_reg hm hT hC (race_Laps_g0 (race_Laps_K d) (x.1.1, x.2.1.1, x.2.1.2.1, x.2.2.1.1, x.2.2.1.2.1)) h ?_
  intro y0 h
  refine cn_then ?_
  refine run_seq ?_
  refine run_seq ?_
  refine run_reg hm hT hC (race_Laps_g1 (race_Laps_K d) y0) h ?_
  intro y1 h
  refine cn_then ?_
  refine run_seq ?_
  refine run_reg hm hT hC (race_Laps_g2 (race_Laps_K d) y1) h ?_
  intro y2 h
  refine cn_then ?_
  refine run_cond (v := y2.2.1) (by kernel_rfl) h ?_ ?_
  ·
    intro h
    refine run_seq ?_
    refine run_reg hm hT hC (race_Laps_g3 (race_Laps_K d) y2) h ?_
    intro y3 h
    refine cn_then ?_
    refine run_ret ?_
    refine cn_then_ret ?_
    cases h
    exact (hend _ (by kernel_rfl)).2
  ·
    intro h
    refine run_skip ?_
    refine cn_then ?_
    refine run_seq ?_
    refine run_reg hm hT hC (race_Laps_g4 (race_Laps_K d) y2) h ?_
    intro y4 h
    refine cn_then ?_
    refine run_seq ?_
    refine run_seq ?_
    refine run_reg hm hT hC (race_Laps_g5 (race_Laps_K d) y4) h ?_
    intro y5 h
    refine cn_then ?_
    refine run_cond (v := y5.2.1) (by kernel_rfl) h ?_ ?_
    ·
      intro h
      refine run_seq ?_
      refine run_reg hm hT hC (race_Laps_g6 (race_Laps_K d) y5) h ?_
      intro y6 h
      refine cn_then ?_
      refine run_ret ?_
      refine cn_then_ret ?_
      cases h
      exact (hend _ (by kernel_rfl)).2
    ·
      intro h
      refine run_skip ?_
      refine cn_then ?_
      refine run_seq ?_
      refine run_reg hm hT hC (race_Laps_g7 (race_Laps_K d) y5) h ?_
      intro y7 h
      refine cn_then ?_
      refine run_seq ?_
      refine run_seq ?_
      refine run_reg hm hT hC (race_Laps_g8 (race_Laps_K d) y7) h ?_
      intro y8 h
      refine cn_then ?_
      refine run_block ?_
      refine run_loop (G := iter (race_Laps_L1 d )) (S := (fun x1 => ⟨[(5, .ptr 0 0), (11, .int .i64 x1.1), (31, .fz Riii x1.2.1), (32, .int .i64 x1.2.2.1), (33, .int .i64 x1.2.2.2.1)], [.cells [.int .i64 x1.2.2.2.2.1, .int .i64 x1.2.2.2.2.2]]⟩ : Int × List Diii × Int × Int × Int × Int → St)) (fun _ => rfl) ?_ d _ h
      intro n1 x1 h K1 hn1
      replace h : race_Laps_L1 d  (iter (race_Laps_L1 d ) n1) x1 = some r := h
      generalize iter (race_Laps_L1 d ) n1 = self1 at h hn1
      unfold race_Laps_L1 at h
      refine run_seq ?_
      refine run_reg hm hT hC (race_Laps_g9 (race_Laps_K d) x1) h ?_
      intro y9 h
      refine cn_then ?_
      refine run_seq ?_
      refine run_cond (v := y9.2.2.2.2.1) (by kernel_rfl) h ?_ ?_
      ·
        intro h
        refine run_skip ?_
        refine cn_then ?_
        refine run_join (r := r) (F := race_Laps_J2 d self1) (S := (fun z => ⟨[(5, .ptr 0 0), (11, .int .i64 z.1), (31, .fz Riii z.2.1), (32, .int .i64 z.2.2.1), (33, .int .i64 z.2.2.2.1)], [.cells [.int .i64 z.2.2.2.2.1, .int .i64 z.2.2.2.2.2]]⟩ : Int × List Diii × Int × Int × Int × Int → St)) ?_ ?_
        ·
          intro z h
          unfold race_Laps_J2 at h
          refine run_reg hm hT hC (race_Laps_g13 (race_Laps_K d) z) h ?_
          intro y13 h
          exact hn1 _ h
        intro hj2
        refine run_block ?_
        refine run_seq ?_
        refine run_reg hm hT hC (race_Laps_g10 (race_Laps_K d) y9) h ?_
        intro y10 h
        refine cn_then ?_
        refine run_seq ?_
        refine run_reg hm hT hC (race_Laps_g11 (race_Laps_K d) y10) h ?_
        intro y11 h
        refine cn_then ?_
        refine run_cond (v := y11.2.2.2.2.1) (by kernel_rfl) h ?_ ?_
        ·
          intro h
          refine run_reg hm hT hC (race_Laps_g12 (race_Laps_K d) y11) h ?_
          intro y12 h
          refine cn_blk ?_
          exact hj2 _ h
        ·
          intro h
          refine run_skip ?_
          refine cn_blk ?_
          refine cn_num (s := ⟨[(5, .ptr 0 0), (11, .int .i64 y11.1), (31, .fz Riii y11.2.1), (32, .int .i64 y11.2.2.1), (33, .int .i64 y11.2.2.2.1)], [.cells [.int .i64 y11.2.2.2.2.2.1, .int .i64 y11.2.2.2.2.2.2]]⟩) [41] (by kernel_rfl) ?_
          exact hj2 _ h
      ·
        intro h
        refine run_exit ?_
        refine cn_then_exit ?_
        refine cn_then_exit ?_
        refine cn_blk_eq ?_
        refine cn_then ?_
        refine run_seq ?_
        refine run_reg hm hT hC (race_Laps_g14 (race_Laps_K d) y9) h ?_
        intro y14 h
        refine cn_then ?_
        refine run_ret ?_
        cases h
        exact (hend _ (by kernel_rfl)).2
abbrev ratio_gcd_ps : List Pk := [.row Ru false, .row Ru false]
abbrev ratio_gcd_X : Type := Du × Du × Unit
abbrev ratio_gcd_R : Type := Int
def ratio_gcd_enc (r : ratio_gcd_R) : LV × List Ob := (.int .u64 r, [])
def ratio_gcd_sp (F : ratio_gcd_X → Option ratio_gcd_R) : Go.Tx.Spec := ⟨78, ratio_gcd_ps, ratio_gcd_R, F, ratio_gcd_enc⟩
abbrev ratio_gcd_C : Type := Unit
def ratio_gcd_K (_d : Nat) : ratio_gcd_C := ()
def ratio_gcd_tab (C : ratio_gcd_C) : List Go.Tx.Spec := []
abbrev ratio_gcd_Y0i : Type := Int × Int
def ratio_gcd_S0i (v : ratio_gcd_Y0i) : St := ⟨[(0, .int .u64 v.1), (1, .int .u64 v.2)], []⟩
def ratio_gcd_r0 (C : ratio_gcd_C) (v : ratio_gcd_Y0i) : Dt ratio_gcd_Y0i := (Dt.ret (v.1, v.2))
theorem ratio_gcd_g0 (C : ratio_gcd_C) (v : ratio_gcd_Y0i) : treg tysT (orc (ratio_gcd_tab C)) 12 (regO (bodyOf f78) 0) false [(0, .any), (1, .any)] (ratio_gcd_S0i v) some = (ratio_gcd_r0 C v).eval fun y => some (ratio_gcd_S0i y) := by kernel_rfl
abbrev ratio_gcd_Y1 : Type := Int × Int × Bool
def ratio_gcd_S1 (v : ratio_gcd_Y1) : St := ⟨[(0, .int .u64 v.1), (1, .int .u64 v.2.1), (6, .bool v.2.2)], []⟩
def ratio_gcd_r1 (C : ratio_gcd_C) (v : ratio_gcd_Y0i) : Dt ratio_gcd_Y1 := (Dt.ret (v.1, v.2, (decide (v.2 > (0:Int)))))
theorem ratio_gcd_g1 (C : ratio_gcd_C) (v : ratio_gcd_Y0i) : treg tysT (orc (ratio_gcd_tab C)) 12 (regO (bodyOf f78) 1) false [(0, .any), (1, .any), (6, .any)] (ratio_gcd_S0i v) some = (ratio_gcd_r1 C v).eval fun y => some (ratio_gcd_S1 y) := by kernel_rfl
def ratio_gcd_r2 (C : ratio_gcd_C) (v : ratio_gcd_Y1) : Dt ratio_gcd_Y0i := (Dt.ite (v.2.1 == (0:Int)) Dt.fail (Dt.ret (v.2.1, (Int.tmod v.1 v.2.1))))
theorem ratio_gcd_g2 (C : ratio_gcd_C) (v : ratio_gcd_Y1) : treg tysT (orc (ratio_gcd_tab C)) 12 (regO (bodyOf f78) 2) true [(0, .any), (1, .any)] (ratio_gcd_S1 v) some = (ratio_gcd_r2 C v).eval fun y => some (ratio_gcd_S0i y) := by kernel_rfl
abbrev ratio_gcd_Y3 : Type := Int
def ratio_gcd_S3 (v : ratio_gcd_Y3) : St := ⟨[(4, .int .u64 v)], []⟩
def ratio_gcd_r3 (C : ratio_gcd_C) (v : ratio_gcd_Y1) : Dt ratio_gcd_Y3 := (Dt.ret v.1)
theorem ratio_gcd_g3 (C : ratio_gcd_C) (v : ratio_gcd_Y1) : treg tysT (orc (ratio_gcd_tab C)) 12 (regO (bodyOf f78) 3) false [(4, .any)] (ratio_gcd_S1 v) some = (ratio_gcd_r3 C v).eval fun y => some (ratio_gcd_S3 y) := by kernel_rfl
def ratio_gcd_L1 (d : Nat) (self1 : (Int × Int) → Option ratio_gcd_R) (x1 : Int × Int) : Option ratio_gcd_R :=
  (ratio_gcd_r1 (ratio_gcd_K d) x1).eval fun y1 =>
  bif y1.2.2 then ((ratio_gcd_r2 (ratio_gcd_K d) y1).eval fun y2 =>
  self1 y2) else ((ratio_gcd_r3 (ratio_gcd_K d) y1).eval fun y3 =>
  some y3)
def F_ratio_gcd (d : Nat) (x : ratio_gcd_X) : Option ratio_gcd_R :=
  (ratio_gcd_r0 (ratio_gcd_K d) (x.1.1, x.2.1.1)).eval fun y0 =>
  iter (ratio_gcd_L1 d ) d y0
theorem ratio_gcd_cok (d : Nat) : COK prog (ratio_gcd_sp (F_ratio_gcd d)) := by
  have hm : prog.follows .mixedOrders = true := mixed
  have hT := tys
  have hC0 : OrcOK prog (orc (ratio_gcd_tab (ratio_gcd_K d))) := orc_ok (by
    intro S hS
    simp only [ratio_gcd_tab, List.mem_cons, List.not_mem_nil, or_false] at hS
    all_goals first | cases hS | exact hS.elim)
  have hC : OrcOK prog (orc (ratio_gcd_tab (ratio_gcd_K d))) := hC0
  refine cok_of (c := bodyOf f78) (fn := f78) hT (by kernel_rfl) (by kernel_rfl) (by decide) fun x r h w0 φ0 Q hend => ?_
  replace h : F_ratio_gcd d x = some r := h
  unfold F_ratio_gcd at h
  show Run prog w0 φ0 12 (bodyOf f78) ⟨[(0, .int .u64 x.1.1), (1, .int .u64 x.2.1.1)], []⟩ Q
  refine run_seq ?_
  refine run_reg hm hT hC (ratio_gcd_g0 (ratio_gcd_K d) (x.1.1, x.2.1.1)) h ?_
  intro y0 h
  refine cn_then ?_
  refine run_seq ?_
  refine run_block ?_
  refine run_loop (G := iter (ratio_gcd_L1 d )) (S := (fun x1 => ⟨[(0, .int .u64 x1.1), (1, .int .u64 x1.2)], []⟩ : Int × Int → St)) (fun _ => rfl) ?_ d _ h
  intro n1 x1 h K1 hn1
  replace h : ratio_gcd_L1 d  (iter (ratio_gcd_L1 d ) n1) x1 = some r := h
  generalize iter (ratio_gcd_L1 d ) n1 = self1 at h hn1
  unfold ratio_gcd_L1 at h
  refine run_seq ?_
  refine run_seq ?_
  refine run_reg hm hT hC (ratio_gcd_g1 (ratio_gcd_K d) x1) h ?_
  intro y1 h
  refine cn_then ?_
  refine run_cond (v := y1.2.2) (by kernel_rfl) h ?_ ?_
  ·
    intro h
    refine run_skip ?_
    refine cn_then ?_
    refine run_block ?_
    refine run_reg hm hT hC (ratio_gcd_g2 (ratio_gcd_K d) y1) h ?_
    intro y2 h
    refine cn_blk ?_
    exact hn1 _ h
  ·
    intro h
    refine run_exit ?_
    refine cn_then_exit ?_
    refine cn_then_exit ?_
    refine cn_blk_eq ?_
    refine cn_then ?_
    refine run_seq ?_
    refine run_reg hm hT hC (ratio_gcd_g3 (ratio_gcd_K d) y1) h ?_
    intro y3 h
    refine cn_then ?_
    refine run_ret ?_
    cases h
    exact (hend _ (by kernel_rfl)).2
abbrev ratio_plus_ps : List Pk := [.row Rbuu true, .row Rbuu true]
abbrev ratio_plus_X : Type := Dbuu × Dbuu × Unit
abbrev ratio_plus_R : Type := Bool × Int × Int
def ratio_plus_enc (r : ratio_plus_R) : LV × List Ob := (.agg [.bool r.1, .int .u64 r.2.1, .int .u64 r.2.2], [])
def ratio_plus_sp (F : ratio_plus_X → Option ratio_plus_R) : Go.Tx.Spec := ⟨87, ratio_plus_ps, ratio_plus_R, F, ratio_plus_enc⟩
abbrev ratio_plus_C : Type := (ratio_compare_X → Option ratio_compare_R) × Unit
def ratio_plus_K (d : Nat) : ratio_plus_C := (F_ratio_compare d, ())
def ratio_plus_tab (C : ratio_plus_C) : List Go.Tx.Spec := [ratio_compare_sp C.1]
abbrev ratio_plus_Y0i : Type := Bool × Int × Int × Bool × Int × Int
def ratio_plus_S0i (v : ratio_plus_Y0i) : St := ⟨[(0, .agg [.bool v.1, .int .u64 v.2.1, .int .u64 v.2.2.1]), (1, .agg [.bool v.2.2.2.1, .int .u64 v.2.2.2.2.1, .int .u64 v.2.2.2.2.2])], []⟩
abbrev ratio_plus_Y0 : Type := Bool × Int × Int × Bool × Int × Int × Bool × Int × Int
def ratio_plus_S0 (v : ratio_plus_Y0) : St := ⟨[(2, .ptr 0 0), (3, .ptr 1 0), (4, .ptr 2 0)], [.cells [.bool v.1, .int .u64 v.2.1, .int .u64 v.2.2.1], .cells [.bool v.2.2.2.1, .int .u64 v.2.2.2.2.1, .int .u64 v.2.2.2.2.2.1], .cells [.bool v.2.2.2.2.2.2.1, .int .u64 v.2.2.2.2.2.2.2.1, .int .u64 v.2.2.2.2.2.2.2.2]]⟩
def ratio_plus_r0 (C : ratio_plus_C) (v : ratio_plus_Y0i) : Dt ratio_plus_Y0 := (Dt.ret (v.1, v.2.1, v.2.2.1, v.2.2.2.1, v.2.2.2.2.1, v.2.2.2.2.2, false, (0:Int), (0:Int)))
theorem ratio_plus_g0 (C : ratio_plus_C) (v : ratio_plus_Y0i) : treg tysT (orcI 106 sub64V (orcI 105 add64V (orc (ratio_plus_tab C)))) 68 (regO (bodyOf f87) 0) false [(2, .any), (3, .any), (4, .any)] (ratio_plus_S0i v) some = (ratio_plus_r0 C v).eval fun y => some (ratio_plus_S0 y) := by kernel_rfl
abbrev ratio_plus_Y1 : Type := Bool × Bool × Int × Int × Bool × Int × Int × Bool × Int × Int
def ratio_plus_S1 (v : ratio_plus_Y1) : St := ⟨[(2, .ptr 0 0), (3, .ptr 1 0), (4, .ptr 2 0), (17, .bool v.1)], [.cells [.bool v.2.1, .int .u64 v.2.2.1, .int .u64 v.2.2.2.1], .cells [.bool v.2.2.2.2.1, .int .u64 v.2.2.2.2.2.1, .int .u64 v.2.2.2.2.2.2.1], .cells [.bool v.2.2.2.2.2.2.2.1, .int .u64 v.2.2.2.2.2.2.2.2.1, .int .u64 v.2.2.2.2.2.2.2.2.2]]⟩
def ratio_plus_r1 (C : ratio_plus_C) (v : ratio_plus_Y0) : Dt ratio_plus_Y1 := (Dt.ret ((v.1 == v.2.2.2.1), v.1, v.2.1, v.2.2.1, v.2.2.2.1, v.2.2.2.2.1, v.2.2.2.2.2.1, v.2.2.2.2.2.2.1, v.2.2.2.2.2.2.2.1, v.2.2.2.2.2.2.2.2))
theorem ratio_plus_g1 (C : ratio_plus_C) (v : ratio_plus_Y0) : treg tysT (orcI 106 sub64V (orcI 105 add64V (orc (ratio_plus_tab C)))) 68 (regO (bodyOf f87) 1) false [(2, .any), (3, .any), (4, .any), (17, .any)] (ratio_plus_S0 v) some = (ratio_plus_r1 C v).eval fun y => some (ratio_plus_S1 y) := by kernel_rfl
abbrev ratio_plus_Y2 : Type := Int × Int × Bool × Int × Int × Bool × Int × Int × Bool × Int × Int
def ratio_plus_S2 (v : ratio_plus_Y2) : St := ⟨[(2, .ptr 0 0), (3, .ptr 1 0), (4, .ptr 2 0), (5, .int .u64 v.1), (6, .int .u64 v.2.1)], [.cells [.bool v.2.2.1, .int .u64 v.2.2.2.1, .int .u64 v.2.2.2.2.1], .cells [.bool v.2.2.2.2.2.1, .int .u64 v.2.2.2.2.2.2.1, .int .u64 v.2.2.2.2.2.2.2.1], .cells [.bool v.2.2.2.2.2.2.2.2.1, .int .u64 v.2.2.2.2.2.2.2.2.2.1, .int .u64 v.2.2.2.2.2.2.2.2.2.2]]⟩
def ratio_plus_r2 (C : ratio_plus_C) (v : ratio_plus_Y1) : Dt ratio_plus_Y2 := (Dt.bnd (add64V (v.2.2.2.1) (v.2.2.2.2.2.2.1) ((0:Int))) fun r1 => (Dt.ret (r1.1, r1.2, v.2.1, v.2.2.1, v.2.2.2.1, v.2.2.2.2.1, v.2.2.2.2.2.1, v.2.2.2.2.2.2.1, v.2.2.2.2.2.2.2.1, v.2.2.2.2.2.2.2.2.1, v.2.2.2.2.2.2.2.2.2)))
theorem ratio_plus_g2 (C : ratio_plus_C) (v : ratio_plus_Y1) : treg tysT (orcI 106 sub64V (orcI 105 add64V (orc (ratio_plus_tab C)))) 68 (regO (bodyOf f87) 2) false [(2, .any), (3, .any), (4, .any), (5, .any), (6, .any)] (ratio_plus_S1 v) some = (ratio_plus_r2 C v).eval fun y => some (ratio_plus_S2 y) := by kernel_rfl
abbrev ratio_plus_Y3 : Type := Int × Int × Bool × Int × Int × Bool × Int × Int
def ratio_plus_S3 (v : ratio_plus_Y3) : St := ⟨[(2, .ptr 0 0), (4, .ptr 1 0), (5, .int .u64 v.1), (7, .int .u64 v.2.1)], [.cells [.bool v.2.2.1, .int .u64 v.2.2.2.1, .int .u64 v.2.2.2.2.1], .cells [.bool v.2.2.2.2.2.1, .int .u64 v.2.2.2.2.2.2.1, .int .u64 v.2.2.2.2.2.2.2]]⟩
def ratio_plus_r3 (C : ratio_plus_C) (v : ratio_plus_Y2) : Dt ratio_plus_Y3 := (Dt.bnd (add64V (v.2.2.2.1) (v.2.2.2.2.2.2.1) (v.2.1)) fun r1 => (Dt.ret (v.1, r1.1, v.2.2.1, v.2.2.2.1, v.2.2.2.2.1, v.2.2.2.2.2.2.2.2.1, v.2.2.2.2.2.2.2.2.2.1, v.2.2.2.2.2.2.2.2.2.2)))
theorem ratio_plus_g3 (C : ratio_plus_C) (v : ratio_plus_Y2) : treg tysT (orcI 106 sub64V (orcI 105 add64V (orc (ratio_plus_tab C)))) 68 (regO (bodyOf f87) 3) false [(2, .any), (4, .any), (5, .any), (7, .any)] (ratio_plus_S2 v) some = (ratio_plus_r3 C v).eval fun y => some (ratio_plus_S3 y) := by kernel_rfl
abbrev ratio_plus_Y4 : Type := Bool × Int × Int
def ratio_plus_S4 (v : ratio_plus_Y4) : St := ⟨[(4, .ptr 0 0)], [.cells [.bool v.1, .int .u64 v.2.1, .int .u64 v.2.2]]⟩
def ratio_plus_r4 (C : ratio_plus_C) (v : ratio_plus_Y3) : Dt ratio_plus_Y4 := (Dt.ret (v.2.2.1, v.2.1, v.1))
theorem ratio_plus_g4 (C : ratio_plus_C) (v : ratio_plus_Y3) : treg tysT (orcI 106 sub64V (orcI 105 add64V (orc (ratio_plus_tab C)))) 68 (regO (bodyOf f87) 4) false [(4, .any)] (ratio_plus_S3 v) some = (ratio_plus_r4 C v).eval fun y => some (ratio_plus_S4 y) := by kernel_rfl
abbrev ratio_plus_Y5 : Type := Bool × Bool × Int × Int × Bool × Int × Int × Bool × Int × Int
def ratio_plus_S5 (v : ratio_plus_Y5) : St := ⟨[(2, .ptr 0 0), (3, .ptr 1 0), (4, .ptr 2 0), (43, .bool v.1)], [.cells [.bool v.2.1, .int .u64 v.2.2.1, .int .u64 v.2.2.2.1], .cells [.bool v.2.2.2.2.1, .int .u64 v.2.2.2.2.2.1, .int .u64 v.2.2.2.2.2.2.1], .cells [.bool v.2.2.2.2.2.2.2.1, .int .u64 v.2.2.2.2.2.2.2.2.1, .int .u64 v.2.2.2.2.2.2.2.2.2]]⟩
def ratio_plus_r5 (C : ratio_plus_C) (v : ratio_plus_Y1) : Dt ratio_plus_Y5 := (Dt.bnd (C.1 ((v.2.1, v.2.2.1, v.2.2.2.1, ()), (v.2.2.2.2.1, v.2.2.2.2.2.1, v.2.2.2.2.2.2.1, ()), ())) fun r1 => (Dt.ret ((decide (r1 < (0:Int))), v.2.1, v.2.2.1, v.2.2.2.1, v.2.2.2.2.1, v.2.2.2.2.2.1, v.2.2.2.2.2.2.1, v.2.2.2.2.2.2.2.1, v.2.2.2.2.2.2.2.2.1, v.2.2.2.2.2.2.2.2.2)))
theorem ratio_plus_g5 (C : ratio_plus_C) (v : ratio_plus_Y1) : treg tysT (orcI 106 sub64V (orcI 105 add64V (orc (ratio_plus_tab C)))) 68 (regO (bodyOf f87) 5) false [(2, .any), (3, .any), (4, .any), (43, .any)] (ratio_plus_S1 v) some = (ratio_plus_r5 C v).eval fun y => some (ratio_plus_S5 y) := by kernel_rfl
def ratio_plus_r6 (C : ratio_plus_C) (v : ratio_plus_Y5) : Dt ratio_plus_Y0 := (Dt.ret (v.2.2.2.2.1, v.2.2.2.2.2.1, v.2.2.2.2.2.2.1, v.2.1, v.2.2.1, v.2.2.2.1, v.2.2.2.2.2.2.2.1, v.2.2.2.2.2.2.2.2.1, v.2.2.2.2.2.2.2.2.2))
theorem ratio_plus_g6 (C : ratio_plus_C) (v : ratio_plus_Y5) : treg tysT (orcI 106 sub64V (orcI 105 add64V (orc (ratio_plus_tab C)))) 68 (regO (bodyOf f87) 6) false [(2, .any), (3, .any), (4, .any)] (ratio_plus_S5 v) some = (ratio_plus_r6 C v).eval fun y => some (ratio_plus_S0 y) := by kernel_rfl
abbrev ratio_plus_Y7 : Type := Int × Int × Bool × Int × Int × Bool × Int × Int × Bool × Int × Int
def ratio_plus_S7 (v : ratio_plus_Y7) : St := ⟨[(2, .ptr 0 0), (3, .ptr 1 0), (4, .ptr 2 0), (9, .int .u64 v.1), (10, .int .u64 v.2.1)], [.cells [.bool v.2.2.1, .int .u64 v.2.2.2.1, .int .u64 v.2.2.2.2.1], .cells [.bool v.2.2.2.2.2.1, .int .u64 v.2.2.2.2.2.2.1, .int .u64 v.2.2.2.2.2.2.2.1], .cells [.bool v.2.2.2.2.2.2.2.2.1, .int .u64 v.2.2.2.2.2.2.2.2.2.1, .int .u64 v.2.2.2.2.2.2.2.2.2.2]]⟩
def ratio_plus_r7 (C : ratio_plus_C) (v : ratio_plus_Y0) : Dt ratio_plus_Y7 := (Dt.bnd (sub64V (v.2.2.1) (v.2.2.2.2.2.1) ((0:Int))) fun r1 => (Dt.ret (r1.1, r1.2, v.1, v.2.1, v.2.2.1, v.2.2.2.1, v.2.2.2.2.1, v.2.2.2.2.2.1, v.2.2.2.2.2.2.1, v.2.2.2.2.2.2.2.1, v.2.2.2.2.2.2.2.2)))
theorem ratio_plus_g7 (C : ratio_plus_C) (v : ratio_plus_Y0) : treg tysT (orcI 106 sub64V (orcI 105 add64V (orc (ratio_plus_tab C)))) 68 (regO (bodyOf f87) 7) false [(2, .any), (3, .any), (4, .any), (9, .any), (10, .any)] (ratio_plus_S0 v) some = (ratio_plus_r7 C v).eval fun y => some (ratio_plus_S7 y) := by kernel_rfl
abbrev ratio_plus_Y8 : Type := Int × Int × Bool × Int × Int × Bool × Int × Int
def ratio_plus_S8 (v : ratio_plus_Y8) : St := ⟨[(2, .ptr 0 0), (4, .ptr 1 0), (9, .int .u64 v.1), (11, .int .u64 v.2.1)], [.cells [.bool v.2.2.1, .int .u64 v.2.2.2.1, .int .u64 v.2.2.2.2.1], .cells [.bool v.2.2.2.2.2.1, .int .u64 v.2.2.2.2.2.2.1, .int .u64 v.2.2.2.2.2.2.2]]⟩
def ratio_plus_r8 (C : ratio_plus_C) (v : ratio_plus_Y7) : Dt ratio_plus_Y8 := (Dt.bnd (sub64V (v.2.2.2.1) (v.2.2.2.2.2.2.1) (v.2.1)) fun r1 => (Dt.ret (v.1, r1.1, v.2.2.1, v.2.2.2.1, v.2.2.2.2.1, v.2.2.2.2.2.2.2.2.1, v.2.2.2.2.2.2.2.2.2.1, v.2.2.2.2.2.2.2.2.2.2)))
theorem ratio_plus_g8 (C : ratio_plus_C) (v : ratio_plus_Y7) : treg tysT (orcI 106 sub64V (orcI 105 add64V (orc (ratio_plus_tab C)))) 68 (regO (bodyOf f87) 8) false [(2, .any), (4, .any), (9, .any), (11, .any)] (ratio_plus_S7 v) some = (ratio_plus_r8 C v).eval fun y => some (ratio_plus_S8 y) := by kernel_rfl
def ratio_plus_r9 (C : ratio_plus_C) (v : ratio_plus_Y8) : Dt ratio_plus_Y4 := (Dt.ret (v.2.2.1, v.2.1, v.1))
theorem ratio_plus_g9 (C : ratio_plus_C) (v : ratio_plus_Y8) : treg tysT (orcI 106 sub64V (orcI 105 add64V (orc (ratio_plus_tab C)))) 68 (regO (bodyOf f87) 9) false [(4, .any)] (ratio_plus_S8 v) some = (ratio_plus_r9 C v).eval fun y => some (ratio_plus_S4 y) := by kernel_rfl
def ratio_plus_J1  (d : Nat)  (z : Bool × Int × Int × Bool × Int × Int × Bool × Int × Int) : Option (ratio_plus_R) :=
  (ratio_plus_r7 (ratio_plus_K d) z).eval fun y7 =>
  (ratio_plus_r8 (ratio_plus_K d) y7).eval fun y8 =>
  (ratio_plus_r9 (ratio_plus_K d) y8).eval fun y9 =>
  some y9
def F_ratio_plus (d : Nat) (x : ratio_plus_X) : Option ratio_plus_R :=
  (ratio_plus_r0 (ratio_plus_K d) (x.1.1, x.1.2.1, x.1.2.2.1, x.2.1.1, x.2.1.2.1, x.2.1.2.2.1)).eval fun y0 =>
  (ratio_plus_r1 (ratio_plus_K d) y0).eval fun y1 =>
  bif y1.1 then ((ratio_plus_r2 (ratio_plus_K d) y1).eval fun y2 =>
  (ratio_plus_r3 (ratio_plus_K d) y2).eval fun y3 =>
  (ratio_plus_r4 (ratio_plus_K d) y3).eval fun y4 =>
  some y4) else ((ratio_plus_r5 (ratio_plus_K d) y1).eval fun y5 =>
  bif y5.1 then ((ratio_plus_r6 (ratio_plus_K d) y5).eval fun y6 =>
  ratio_plus_J1 d  y6) else (ratio_plus_J1 d  y5.2))
theorem ratio_plus_cok (d : Nat) : COK prog (ratio_plus_sp (F_ratio_plus d)) := by
  have hm : prog.follows .mixedOrders = true := mixed
  have hT := tys
  have hC0 : OrcOK prog (orc (ratio_plus_tab (ratio_plus_K d))) := orc_ok (by
    intro S hS
    simp only [ratio_plus_tab, List.mem_cons, List.not_mem_nil, or_false] at hS
    subst hS; exact ratio_compare_cok d)
  have hC : OrcOK prog (orcI 106 sub64V (orcI 105 add64V (orc (ratio_plus_tab (ratio_plus_K d))))) := (orcI_ok sub64_imm (orcI_ok add64_imm hC0))
  refine cok_of (c := bodyOf f87) (fn := f87) hT (by kernel_rfl) (by kernel_rfl) (by decide) fun x r h w0 φ0 Q hend => ?_
  replace h : F_ratio_plus d x = some r := h
  unfold F_ratio_plus at h
  show Run prog w0 φ0 68 (bodyOf f87) ⟨[(0, .agg [.bool x.1.1, .int .u64 x.1.2.1, .int .u64 x.1.2.2.1]), (1, .agg [.bool x.2.1.1, .int .u64 x.2.1.2.1, .int .u64 x.2.1.2.2.1])], []⟩ Q
  refine run_seq ?_
  refine run_reg hm hT hC (ratio_plus_g0 (ratio_plus_K d) (x.1.1, x.1.2.1, x.1.2.2.1, x.2.1.1, x.2.1.2.1, x.2.1.2.2.1)) h ?_
  intro y0 h
  refine cn_then ?_
  refine run_seq ?_
  refine run_seq ?_
  refine run_reg hm hT hC (ratio_plus_g1 (ratio_plus_K d) y0) h ?_
  intro y1 h
  refine cn_then ?_
  refine run_cond (v := y1.1) (by kernel_rfl) h ?_ ?_
  ·
    intro h
    refine run_seq ?_
    refine run_reg hm hT hC (ratio_plus_g2 (ratio_plus_K d) y1) h ?_
    intro y2 h
    refine cn_then ?_
    refine run_seq ?_
    refine run_reg hm hT hC (ratio_plus_g3 (ratio_plus_K d) y2) h ?_
    intro y3 h
    refine cn_then ?_
    refine run_seq ?_
    refine run_reg hm hT hC (ratio_plus_g4 (ratio_plus_K d) y3) h ?_
    intro y4 h
    refine cn_then ?_
    refine run_ret ?_
    refine cn_then_ret ?_
    cases h
    exact (hend _ (by kernel_rfl)).2
  ·
    intro h
    refine run_skip ?_
    refine cn_then ?_
    refine run_join (r := r) (F := ratio_plus_J1 d ) (S := (fun z => ⟨[(2, .ptr 0 0), (3, .ptr 1 0), (4, .ptr 2 0)], [.cells [.bool z.1, .int .u64 z.2.1, .int .u64 z.2.2.1], .cells [.bool z.2.2.2.1, .int .u64 z.2.2.2.2.1, .int .u64 z.2.2.2.2.2.1], .cells [.bool z.2.2.2.2.2.2.1, .int .u64 z.2.2.2.2.2.2.2.1, .int .u64 z.2.2.2.2.2.2.2.2]]⟩ : Bool × Int × Int × Bool × Int × Int × Bool × Int × Int → St)) ?_ ?_
    ·
      intro z h
      unfold ratio_plus_J1 at h
      refine run_seq ?_
      refine run_reg hm hT hC (ratio_plus_g7 (ratio_plus_K d) z) h ?_
      intro y7 h
      refine cn_then ?_
      refine run_seq ?_
      refine run_reg hm hT hC (ratio_plus_g8 (ratio_plus_K d) y7) h ?_
      intro y8 h
      refine cn_then ?_
      refine run_seq ?_
      refine run_reg hm hT hC (ratio_plus_g9 (ratio_plus_K d) y8) h ?_
      intro y9 h
      refine cn_then ?_
      refine run_ret ?_
      cases h
      exact (hend _ (by kernel_rfl)).2
    intro hj1
    refine run_seq ?_
    refine run_reg hm hT hC (ratio_plus_g5 (ratio_plus_K d) y1) h ?_
    intro y5 h
    refine cn_then ?_
    refine run_cond (v := y5.1) (by kernel_rfl) h ?_ ?_
    ·
      intro h
      refine run_reg hm hT hC (ratio_plus_g6 (ratio_plus_K d) y5) h ?_
      intro y6 h
      exact hj1 _ h
    ·
      intro h
      refine run_skip ?_
      refine cn_num (s := ⟨[(2, .ptr 0 0), (3, .ptr 1 0), (4, .ptr 2 0)], [.cells [.bool y5.2.1, .int .u64 y5.2.2.1, .int .u64 y5.2.2.2.1], .cells [.bool y5.2.2.2.2.1, .int .u64 y5.2.2.2.2.2.1, .int .u64 y5.2.2.2.2.2.2.1], .cells [.bool y5.2.2.2.2.2.2.2.1, .int .u64 y5.2.2.2.2.2.2.2.2.1, .int .u64 y5.2.2.2.2.2.2.2.2.2]]⟩) [43] (by kernel_rfl) ?_
      exact hj1 _ h
abbrev math_bits_Len64_ps : List Pk := [.row Ru false]
abbrev math_bits_Len64_X : Type := Du × Unit
abbrev math_bits_Len64_R : Type := Int
def math_bits_Len64_enc (r : math_bits_Len64_R) : LV × List Ob := (.int .i64 r, [])
def math_bits_Len64_sp (F : math_bits_Len64_X → Option math_bits_Len64_R) : Go.Tx.Spec := ⟨125, math_bits_Len64_ps, math_bits_Len64_R, F, math_bits_Len64_enc⟩
abbrev math_bits_Len64_C : Type := Unit
def math_bits_Len64_K (_d : Nat) : math_bits_Len64_C := ()
def math_bits_Len64_tab (C : math_bits_Len64_C) : List Go.Tx.Spec := []
abbrev math_bits_Len64_Y0i : Type := Int
def math_bits_Len64_S0i (v : math_bits_Len64_Y0i) : St := ⟨[(0, .int .u64 v)], []⟩
abbrev math_bits_Len64_Y0 : Type := Int × Int
def math_bits_Len64_S0 (v : math_bits_Len64_Y0) : St := ⟨[(0, .int .u64 v.1), (2, .int .i64 v.2)], []⟩
def math_bits_Len64_r0 (C : math_bits_Len64_C) (v : math_bits_Len64_Y0i) : Dt math_bits_Len64_Y0 := (Dt.ret (v, (0:Int)))
theorem math_bits_Len64_g0 (C : math_bits_Len64_C) (v : math_bits_Len64_Y0i) : treg tysT (orc (math_bits_Len64_tab C)) 25 (regO (bodyOf f125) 0) false [(0, .any), (2, .any)] (math_bits_Len64_S0i v) some = (math_bits_Len64_r0 C v).eval fun y => some (math_bits_Len64_S0 y) := by kernel_rfl
abbrev math_bits_Len64_Y1 : Type := Int × Int × Bool
def math_bits_Len64_S1 (v : math_bits_Len64_Y1) : St := ⟨[(0, .int .u64 v.1), (2, .int .i64 v.2.1), (4, .bool v.2.2)], []⟩
def math_bits_Len64_r1 (C : math_bits_Len64_C) (v : math_bits_Len64_Y0) : Dt math_bits_Len64_Y1 := (Dt.ret (v.1, v.2, (decide (v.1 ≥ (4294967296:Int)))))
theorem math_bits_Len64_g1 (C : math_bits_Len64_C) (v : math_bits_Len64_Y0) : treg tysT (orc (math_bits_Len64_tab C)) 25 (regO (bodyOf f125) 1) false [(0, .any), (2, .any), (4, .any)] (math_bits_Len64_S0 v) some = (math_bits_Len64_r1 C v).eval fun y => some (math_bits_Len64_S1 y) := by kernel_rfl
def math_bits_Len64_r2 (C : math_bits_Len64_C) (v : math_bits_Len64_Y1) : Dt math_bits_Len64_Y0i := (Dt.ret (shrI .u64 v.1 (32:Int)))
theorem math_bits_Len64_g2 (C : math_bits_Len64_C) (v : math_bits_Len64_Y1) : treg tysT (orc (math_bits_Len64_tab C)) 25 (regO (bodyOf f125) 2) false [(0, .any)] (math_bits_Len64_S1 v) some = (math_bits_Len64_r2 C v).eval fun y => some (math_bits_Len64_S0i y) := by kernel_rfl
def math_bits_Len64_r3 (C : math_bits_Len64_C) (v : math_bits_Len64_Y0i) : Dt math_bits_Len64_Y0 := (Dt.ret (v, (32:Int)))
theorem math_bits_Len64_g3 (C : math_bits_Len64_C) (v : math_bits_Len64_Y0i) : treg tysT (orc (math_bits_Len64_tab C)) 25 (regO (bodyOf f125) 3) false [(0, .any), (2, .any)] (math_bits_Len64_S0i v) some = (math_bits_Len64_r3 C v).eval fun y => some (math_bits_Len64_S0 y) := by kernel_rfl
abbrev math_bits_Len64_Y4 : Type := Int × Int × Bool
def math_bits_Len64_S4 (v : math_bits_Len64_Y4) : St := ⟨[(0, .int .u64 v.1), (2, .int .i64 v.2.1), (8, .bool v.2.2)], []⟩
def math_bits_Len64_r4 (C : math_bits_Len64_C) (v : math_bits_Len64_Y0) : Dt math_bits_Len64_Y4 := (Dt.ret (v.1, v.2, (decide (v.1 ≥ (65536:Int)))))
theorem math_bits_Len64_g4 (C : math_bits_Len64_C) (v : math_bits_Len64_Y0) : treg tysT (orc (math_bits_Len64_tab C)) 25 (regO (bodyOf f125) 4) false [(0, .any), (2, .any), (8, .any)] (math_bits_Len64_S0 v) some = (math_bits_Len64_r4 C v).eval fun y => some (math_bits_Len64_S4 y) := by kernel_rfl
def math_bits_Len64_r5 (C : math_bits_Len64_C) (v : math_bits_Len64_Y4) : Dt math_bits_Len64_Y0 := (Dt.ret ((shrI .u64 v.1 (16:Int)), v.2.1))
theorem math_bits_Len64_g5 (C : math_bits_Len64_C) (v : math_bits_Len64_Y4) : treg tysT (orc (math_bits_Len64_tab C)) 25 (regO (bodyOf f125) 5) false [(0, .any), (2, .any)] (math_bits_Len64_S4 v) some = (math_bits_Len64_r5 C v).eval fun y => some (math_bits_Len64_S0 y) := by kernel_rfl
def math_bits_Len64_r6 (C : math_bits_Len64_C) (v : math_bits_Len64_Y0) : Dt math_bits_Len64_Y0 := (Dt.ret (v.1, (IntKind.wrap .i64 (v.2 + (16:Int)))))
theorem math_bits_Len64_g6 (C : math_bits_Len64_C) (v : math_bits_Len64_Y0) : treg tysT (orc (math_bits_Len64_tab C)) 25 (regO (bodyOf f125) 6) false [(0, .any), (2, .any)] (math_bits_Len64_S0 v) some = (math_bits_Len64_r6 C v).eval fun y => some (math_bits_Len64_S0 y) := by kernel_rfl
abbrev math_bits_Len64_Y7 : Type := Int × Int × Bool
def math_bits_Len64_S7 (v : math_bits_Len64_Y7) : St := ⟨[(0, .int .u64 v.1), (2, .int .i64 v.2.1), (14, .bool v.2.2)], []⟩
def math_bits_Len64_r7 (C : math_bits_Len64_C) (v : math_bits_Len64_Y0) : Dt math_bits_Len64_Y7 := (Dt.ret (v.1, v.2, (decide (v.1 ≥ (256:Int)))))
theorem math_bits_Len64_g7 (C : math_bits_Len64_C) (v : math_bits_Len64_Y0) : treg tysT (orc (math_bits_Len64_tab C)) 25 (regO (bodyOf f125) 7) false [(0, .any), (2, .any), (14, .any)] (math_bits_Len64_S0 v) some = (math_bits_Len64_r7 C v).eval fun y => some (math_bits_Len64_S7 y) := by kernel_rfl
def math_bits_Len64_r8 (C : math_bits_Len64_C) (v : math_bits_Len64_Y7) : Dt math_bits_Len64_Y0 := (Dt.ret ((shrI .u64 v.1 (8:Int)), v.2.1))
theorem math_bits_Len64_g8 (C : math_bits_Len64_C) (v : math_bits_Len64_Y7) : treg tysT (orc (math_bits_Len64_tab C)) 25 (regO (bodyOf f125) 8) false [(0, .any), (2, .any)] (math_bits_Len64_S7 v) some = (math_bits_Len64_r8 C v).eval fun y => some (math_bits_Len64_S0 y) := by kernel_rfl
def math_bits_Len64_r9 (C : math_bits_Len64_C) (v : math_bits_Len64_Y0) : Dt math_bits_Len64_Y0 := (Dt.ret (v.1, (IntKind.wrap .i64 (v.2 + (8:Int)))))
theorem math_bits_Len64_g9 (C : math_bits_Len64_C) (v : math_bits_Len64_Y0) : treg tysT (orc (math_bits_Len64_tab C)) 25 (regO (bodyOf f125) 9) false [(0, .any), (2, .any)] (math_bits_Len64_S0 v) some = (math_bits_Len64_r9 C v).eval fun y => some (math_bits_Len64_S0 y) := by kernel_rfl
abbrev math_bits_Len64_Y10 : Type := Int
def math_bits_Len64_S10 (v : math_bits_Len64_Y10) : St := ⟨[(2, .int .i64 v)], []⟩
def math_bits_Len64_r10 (C : math_bits_Len64_C) (v : math_bits_Len64_Y0) : Dt math_bits_Len64_Y10 := (Dt.ite (strB (⟨#[0, 1, 2, 2, 3, 3, 3, 3, 4, 4, 4, 4, 4, 4, 4, 4, 5, 5, 5, 5, 5, 5, 5, 5, 5, 5, 5, 5, 5, 5, 5, 5, 6, 6, 6, 6, 6, 6, 6, 6, 6, 6, 6, 6, 6, 6, 6, 6, 6, 6, 6, 6, 6, 6, 6, 6, 6, 6, 6, 6, 6, 6, 6, 6, 7, 7, 7, 7, 7, 7, 7, 7, 7, 7, 7, 7, 7, 7, 7, 7, 7, 7, 7, 7, 7, 7, 7, 7, 7, 7, 7, 7, 7, 7, 7, 7, 7, 7, 7, 7, 7, 7, 7, 7, 7, 7, 7, 7, 7, 7, 7, 7, 7, 7, 7, 7, 7, 7, 7, 7, 7, 7, 7, 7, 7, 7, 7, 7, 8, 8, 8, 8, 8, 8, 8, 8, 8, 8, 8, 8, 8, 8, 8, 8, 8, 8, 8, 8, 8, 8, 8, 8, 8, 8, 8, 8, 8, 8, 8, 8, 8, 8, 8, 8, 8, 8, 8, 8, 8, 8, 8, 8, 8, 8, 8, 8, 8, 8, 8, 8, 8, 8, 8, 8, 8, 8, 8, 8, 8, 8, 8, 8, 8, 8, 8, 8, 8, 8, 8, 8, 8, 8, 8, 8, 8, 8, 8, 8, 8, 8, 8, 8, 8, 8, 8, 8, 8, 8, 8, 8, 8, 8, 8, 8, 8, 8, 8, 8, 8, 8, 8, 8, 8, 8, 8, 8, 8, 8, 8, 8, 8, 8, 8, 8, 8, 8, 8, 8, 8, 8, 8, 8, 8, 8, 8, 8]⟩ : ByteArray) ((IntKind.wrap .u8 v.1))) (Dt.ret (IntKind.wrap .i64 (v.2 + (IntKind.wrap .i64 (strAt (⟨#[0, 1, 2, 2, 3, 3, 3, 3, 4, 4, 4, 4, 4, 4, 4, 4, 5, 5, 5, 5, 5, 5, 5, 5, 5, 5, 5, 5, 5, 5, 5, 5, 6, 6, 6, 6, 6, 6, 6, 6, 6, 6, 6, 6, 6, 6, 6, 6, 6, 6, 6, 6, 6, 6, 6, 6, 6, 6, 6, 6, 6, 6, 6, 6, 7, 7, 7, 7, 7, 7, 7, 7, 7, 7, 7, 7, 7, 7, 7, 7, 7, 7, 7, 7, 7, 7, 7, 7, 7, 7, 7, 7, 7, 7, 7, 7, 7, 7, 7, 7, 7, 7, 7, 7, 7, 7, 7, 7, 7, 7, 7, 7, 7, 7, 7, 7, 7, 7, 7, 7, 7, 7, 7, 7, 7, 7, 7, 7, 8, 8, 8, 8, 8, 8, 8, 8, 8, 8, 8, 8, 8, 8, 8, 8, 8, 8, 8, 8, 8, 8, 8, 8, 8, 8, 8, 8, 8, 8, 8, 8, 8, 8, 8, 8, 8, 8, 8, 8, 8, 8, 8, 8, 8, 8, 8, 8, 8, 8, 8, 8, 8, 8, 8, 8, 8, 8, 8, 8, 8, 8, 8, 8, 8, 8, 8, 8, 8, 8, 8, 8, 8, 8, 8, 8, 8, 8, 8, 8, 8, 8, 8, 8, 8, 8, 8, 8, 8, 8, 8, 8, 8, 8, 8, 8, 8, 8, 8, 8, 8, 8, 8, 8, 8, 8, 8, 8, 8, 8, 8, 8, 8, 8, 8, 8, 8, 8, 8, 8, 8, 8, 8, 8, 8, 8, 8, 8]⟩ : ByteArray) ((IntKind.wrap .u8 v.1))))))) Dt.fail)
theorem math_bits_Len64_g10 (C : math_bits_Len64_C) (v : math_bits_Len64_Y0) : treg tysT (orc (math_bits_Len64_tab C)) 25 (regO (bodyOf f125) 10) false [(2, .any)] (math_bits_Len64_S0 v) some = (math_bits_Len64_r10 C v).eval fun y => some (math_bits_Len64_S10 y) := by kernel_rfl
def math_bits_Len64_J3  (d : Nat)  (z : Int × Int) : Option (math_bits_Len64_R) :=
  (math_bits_Len64_r10 (math_bits_Len64_K d) z).eval fun y10 =>
  some y10
def math_bits_Len64_J2  (d : Nat)  (z : Int × Int) : Option (math_bits_Len64_R) :=
  (math_bits_Len64_r7 (math_bits_Len64_K d) z).eval fun y7 =>
  bif y7.2.2 then ((math_bits_Len64_r8 (math_bits_Len64_K d) y7).eval fun y8 =>
  (math_bits_Len64_r9 (math_bits_Len64_K d) y8).eval fun y9 =>
  math_bits_Len64_J3 d  y9) else (math_bits_Len64_J3 d  (y7.1, y7.2.1))
def math_bits_Len64_J1  (d : Nat)  (z : Int × Int) : Option (math_bits_Len64_R) :=
  (math_bits_Len64_r4 (math_bits_Len64_K d) z).eval fun y4 =>
  bif y4.2.2 then ((math_bits_Len64_r5 (math_bits_Len64_K d) y4).eval fun y5 =>
  (math_bits_Len64_r6 (math_bits_Len64_K d) y5).eval fun y6 =>
  math_bits_Len64_J2 d  y6) else (math_bits_Len64_J2 d  (y4.1, y4.2.1))
def F_math_bits_Len64 (d : Nat) (x : math_bits_Len64_X) : Option math_bits_Len64_R :=
  (math_bits_Len64_r0 (math_bits_Len64_K d) x.1.1).eval fun y0 =>
  (math_bits_Len64_r1 (math_bits_Len64_K d) y0).eval fun y1 =>
  bif y1.2.2 then ((math_bits_Len64_r2 (math_bits_Len64_K d) y1).eval fun y2 =>
  (math_bits_Len64_r3 (math_bits_Len64_K d) y2).eval fun y3 =>
  math_bits_Len64_J1 d  y3) else (math_bits_Len64_J1 d  (y1.1, y1.2.1))
theorem math_bits_Len64_cok (d : Nat) : COK prog (math_bits_Len64_sp (F_math_bits_Len64 d)) := by
  have hm : prog.follows .mixedOrders = true := mixed
  have hT := tys
  have hC0 : OrcOK prog (orc (math_bits_Len64_tab (math_bits_Len64_K d))) := orc_ok (by
    intro S hS
    simp only [math_bits_Len64_tab, List.mem_cons, List.not_mem_nil, or_false] at hS
    all_goals first | cases hS | exact hS.elim)
  have hC : OrcOK prog (orc (math_bits_Len64_tab (math_bits_Len64_K d))) := hC0
  refine cok_of (c := bodyOf f125) (fn := f125) hT (by kernel_rfl) (by kernel_rfl) (by decide) fun x r h w0 φ0 Q hend => ?_
  replace h : F_math_bits_Len64 d x = some r := h
  unfold F_math_bits_Len64 at h
  show Run prog w0 φ0 25 (bodyOf f125) ⟨[(0, .int .u64 x.1.1)], []⟩ Q
  refine run_seq ?_
  refine run_reg hm hT hC (math_bits_Len64_g0 (math_bits_Len64_K d) x.1.1) h ?_
  intro y0 h
  refine cn_then ?_
  refine run_join (r := r) (F := math_bits_Len64_J1 d ) (S := (fun z => ⟨[(0, .int .u64 z.1), (2, .int .i64 z.2)], []⟩ : Int × Int → St)) ?_ ?_
  ·
    intro z h
    unfold math_bits_Len64_J1 at h
    refine run_join (r := r) (F := math_bits_Len64_J2 d ) (S := (fun z => ⟨[(0, .int .u64 z.1), (2, .int .i64 z.2)], []⟩ : Int × Int → St)) ?_ ?_
    ·
      intro z h
      unfold math_bits_Len64_J2 at h
      refine run_join (r := r) (F := math_bits_Len64_J3 d ) (S := (fun z => ⟨[(0, .int .u64 z.1), (2, .int .i64 z.2)], []⟩ : Int × Int → St)) ?_ ?_
      ·
        intro z h
        unfold math_bits_Len64_J3 at h
        refine run_seq ?_
        refine run_reg hm hT hC (math_bits_Len64_g10 (math_bits_Len64_K d) z) h ?_
        intro y10 h
        refine cn_then ?_
        refine run_ret ?_
        cases h
        exact (hend _ (by kernel_rfl)).2
      intro hj3
      refine run_seq ?_
      refine run_reg hm hT hC (math_bits_Len64_g7 (math_bits_Len64_K d) z) h ?_
      intro y7 h
      refine cn_then ?_
      refine run_cond (v := y7.2.2) (by kernel_rfl) h ?_ ?_
      ·
        intro h
        refine run_seq ?_
        refine run_reg hm hT hC (math_bits_Len64_g8 (math_bits_Len64_K d) y7) h ?_
        intro y8 h
        refine cn_then ?_
        refine run_reg hm hT hC (math_bits_Len64_g9 (math_bits_Len64_K d) y8) h ?_
        intro y9 h
        exact hj3 _ h
      ·
        intro h
        refine run_skip ?_
        refine cn_num (s := ⟨[(0, .int .u64 y7.1), (2, .int .i64 y7.2.1)], []⟩) [14] (by kernel_rfl) ?_
        exact hj3 _ h
    intro hj2
    refine run_seq ?_
    refine run_reg hm hT hC (math_bits_Len64_g4 (math_bits_Len64_K d) z) h ?_
    intro y4 h
    refine cn_then ?_
    refine run_cond (v := y4.2.2) (by kernel_rfl) h ?_ ?_
    ·
      intro h
      refine run_seq ?_
      refine run_reg hm hT hC (math_bits_Len64_g5 (math_bits_Len64_K d) y4) h ?_
      intro y5 h
      refine cn_then ?_
      refine run_reg hm hT hC (math_bits_Len64_g6 (math_bits_Len64_K d) y5) h ?_
      intro y6 h
      exact hj2 _ h
    ·
      intro h
      refine run_skip ?_
      refine cn_num (s := ⟨[(0, .int .u64 y4.1), (2, .int .i64 y4.2.1)], []⟩) [8] (by kernel_rfl) ?_
      exact hj2 _ h
  intro hj1
  refine run_seq ?_
  refine run_reg hm hT hC (math_bits_Len64_g1 (math_bits_Len64_K d) y0) h ?_
  intro y1 h
  refine cn_then ?_
  refine run_cond (v := y1.2.2) (by kernel_rfl) h ?_ ?_
  ·
    intro h
    refine run_seq ?_
    refine run_reg hm hT hC (math_bits_Len64_g2 (math_bits_Len64_K d) y1) h ?_
    intro y2 h
    refine cn_then ?_
    refine run_reg hm hT hC (math_bits_Len64_g3 (math_bits_Len64_K d) y2) h ?_
    intro y3 h
    exact hj1 _ h
  ·
    intro h
    refine run_skip ?_
    refine cn_num (s := ⟨[(0, .int .u64 y1.1), (2, .int .i64 y1.2.1)], []⟩) [4] (by kernel_rfl) ?_
    exact hj1 _ h
abbrev math_bits_LeadingZeros64_ps : List Pk := [.row Ru false]
abbrev math_bits_LeadingZeros64_X : Type := Du × Unit
abbrev math_bits_LeadingZeros64_R : Type := Int
def math_bits_LeadingZeros64_enc (r : math_bits_LeadingZeros64_R) : LV × List Ob := (.int .i64 r, [])
def math_bits_LeadingZeros64_sp (F : math_bits_LeadingZeros64_X → Option math_bits_LeadingZeros64_R) : Go.Tx.Spec := ⟨126, math_bits_LeadingZeros64_ps, math_bits_LeadingZeros64_R, F, math_bits_LeadingZeros64_enc⟩
abbrev math_bits_LeadingZeros64_C : Type := (math_bits_Len64_X → Option math_bits_Len64_R) × Unit
def math_bits_LeadingZeros64_K (d : Nat) : math_bits_LeadingZeros64_C := (F_math_bits_Len64 d, ())
def math_bits_LeadingZeros64_tab (C : math_bits_LeadingZeros64_C) : List Go.Tx.Spec := [math_bits_Len64_sp C.1]
abbrev math_bits_LeadingZeros64_Y0i : Type := Int
def math_bits_LeadingZeros64_S0i (v : math_bits_LeadingZeros64_Y0i) : St := ⟨[(0, .int .u64 v)], []⟩
def math_bits_LeadingZeros64_r0 (C : math_bits_LeadingZeros64_C) (v : math_bits_LeadingZeros64_Y0i) : Dt math_bits_LeadingZeros64_Y0i := (Dt.ret v)
theorem math_bits_LeadingZeros64_g0 (C : math_bits_LeadingZeros64_C) (v : math_bits_LeadingZeros64_Y0i) : treg tysT (orc (math_bits_LeadingZeros64_tab C)) 6 (regO (bodyOf f126) 0) false [(0, .any)] (math_bits_LeadingZeros64_S0i v) some = (math_bits_LeadingZeros64_r0 C v).eval fun y => some (math_bits_LeadingZeros64_S0i y) := by kernel_rfl
abbrev math_bits_LeadingZeros64_Y1 : Type := Int
def math_bits_LeadingZeros64_S1 (v : math_bits_LeadingZeros64_Y1) : St := ⟨[(2, .int .i64 v)], []⟩
def math_bits_LeadingZeros64_r1 (C : math_bits_LeadingZeros64_C) (v : math_bits_LeadingZeros64_Y0i) : Dt math_bits_LeadingZeros64_Y1 := (Dt.bnd (C.1 ((v, ()), ())) fun r1 => (Dt.ret (IntKind.wrap .i64 ((64:Int) - r1))))
theorem math_bits_LeadingZeros64_g1 (C : math_bits_LeadingZeros64_C) (v : math_bits_LeadingZeros64_Y0i) : treg tysT (orc (math_bits_LeadingZeros64_tab C)) 6 (regO (bodyOf f126) 1) false [(2, .any)] (math_bits_LeadingZeros64_S0i v) some = (math_bits_LeadingZeros64_r1 C v).eval fun y => some (math_bits_LeadingZeros64_S1 y) := by kernel_rfl
def F_math_bits_LeadingZeros64 (d : Nat) (x : math_bits_LeadingZeros64_X) : Option math_bits_LeadingZeros64_R :=
  (math_bits_LeadingZeros64_r0 (math_bits_LeadingZeros64_K d) x.1.1).eval fun y0 =>
  (math_bits_LeadingZeros64_r1 (math_bits_LeadingZeros64_K d) y0).eval fun y1 =>
  some y1
theorem math_bits_LeadingZeros64_cok (d : Nat) : COK prog (math_bits_LeadingZeros64_sp (F_math_bits_LeadingZeros64 d)) := by
  have hm : prog.follows .mixedOrders = true := mixed
  have hT := tys
  have hC0 : OrcOK prog (orc (math_bits_LeadingZeros64_tab (math_bits_LeadingZeros64_K d))) := orc_ok (by
    intro S hS
    simp only [math_bits_LeadingZeros64_tab, List.mem_cons, List.not_mem_nil, or_false] at hS
    subst hS; exact math_bits_Len64_cok d)
  have hC : OrcOK prog (orc (math_bits_LeadingZeros64_tab (math_bits_LeadingZeros64_K d))) := hC0
  refine cok_of (c := bodyOf f126) (fn := f126) hT (by kernel_rfl) (by kernel_rfl) (by decide) fun x r h w0 φ0 Q hend => ?_
  replace h : F_math_bits_LeadingZeros64 d x = some r := h
  unfold F_math_bits_LeadingZeros64 at h
  show Run prog w0 φ0 6 (bodyOf f126) ⟨[(0, .int .u64 x.1.1)], []⟩ Q
  refine run_seq ?_
  refine run_reg hm hT hC (math_bits_LeadingZeros64_g0 (math_bits_LeadingZeros64_K d) x.1.1) h ?_
  intro y0 h
  refine cn_then ?_
  refine run_seq ?_
  refine run_reg hm hT hC (math_bits_LeadingZeros64_g1 (math_bits_LeadingZeros64_K d) y0) h ?_
  intro y1 h
  refine cn_then ?_
  refine run_ret ?_
  cases h
  exact (hend _ (by kernel_rfl)).2
abbrev math_bits_Div64_ps : List Pk := [.row Ru false, .row Ru false, .row Ru false]
abbrev math_bits_Div64_X : Type := Du × Du × Du × Unit
abbrev math_bits_Div64_R : Type := Int × Int
def math_bits_Div64_enc (r : math_bits_Div64_R) : LV × List Ob := (.tup [.int .u64 r.1, .int .u64 r.2], [])
def math_bits_Div64_sp (F : math_bits_Div64_X → Option math_bits_Div64_R) : Go.Tx.Spec := ⟨107, math_bits_Div64_ps, math_bits_Div64_R, F, math_bits_Div64_enc⟩
abbrev math_bits_Div64_C : Type := (math_bits_LeadingZeros64_X → Option math_bits_LeadingZeros64_R) × Unit
def math_bits_Div64_K (d : Nat) : math_bits_Div64_C := (F_math_bits_LeadingZeros64 d, ())
def math_bits_Div64_tab (C : math_bits_Div64_C) : List Go.Tx.Spec := [math_bits_LeadingZeros64_sp C.1]
abbrev math_bits_Div64_Y0i : Type := Int × Int × Int
def math_bits_Div64_S0i (v : math_bits_Div64_Y0i) : St := ⟨[(0, .int .u64 v.1), (1, .int .u64 v.2.1), (2, .int .u64 v.2.2)], []⟩
def math_bits_Div64_r0 (C : math_bits_Div64_C) (v : math_bits_Div64_Y0i) : Dt math_bits_Div64_Y0i := (Dt.ret (v.1, v.2.1, v.2.2))
theorem math_bits_Div64_g0 (C : math_bits_Div64_C) (v : math_bits_Div64_Y0i) : treg tysT (orc (math_bits_Div64_tab C)) 135 (regO (bodyOf f107) 0) false [(0, .any), (1, .any), (2, .any)] (math_bits_Div64_S0i v) some = (math_bits_Div64_r0 C v).eval fun y => some (math_bits_Div64_S0i y) := by kernel_rfl
abbrev math_bits_Div64_Y1 : Type := Int × Int × Int × Bool
def math_bits_Div64_S1 (v : math_bits_Div64_Y1) : St := ⟨[(0, .int .u64 v.1), (1, .int .u64 v.2.1), (2, .int .u64 v.2.2.1), (20, .bool v.2.2.2)], []⟩
def math_bits_Div64_r1 (C : math_bits_Div64_C) (v : math_bits_Div64_Y0i) : Dt math_bits_Div64_Y1 := (Dt.ret (v.1, v.2.1, v.2.2, (v.2.2 == (0:Int))))
theorem math_bits_Div64_g1 (C : math_bits_Div64_C) (v : math_bits_Div64_Y0i) : treg tysT (orc (math_bits_Div64_tab C)) 135 (regO (bodyOf f107) 1) false [(0, .any), (1, .any), (2, .any), (20, .any)] (math_bits_Div64_S0i v) some = (math_bits_Div64_r1 C v).eval fun y => some (math_bits_Div64_S1 y) := by kernel_rfl
abbrev math_bits_Div64_Y3 : Type := Int × Int × Int × Bool
def math_bits_Div64_S3 (v : math_bits_Div64_Y3) : St := ⟨[(0, .int .u64 v.1), (1, .int .u64 v.2.1), (2, .int .u64 v.2.2.1), (24, .bool v.2.2.2)], []⟩
def math_bits_Div64_r3 (C : math_bits_Div64_C) (v : math_bits_Div64_Y1) : Dt math_bits_Div64_Y3 := (Dt.ret (v.1, v.2.1, v.2.2.1, (decide (v.2.2.1 ≤ v.1))))
theorem math_bits_Div64_g3 (C : math_bits_Div64_C) (v : math_bits_Div64_Y1) : treg tysT (orc (math_bits_Div64_tab C)) 135 (regO (bodyOf f107) 3) false [(0, .any), (1, .any), (2, .any), (24, .any)] (math_bits_Div64_S1 v) some = (math_bits_Div64_r3 C v).eval fun y => some (math_bits_Div64_S3 y) := by kernel_rfl
abbrev math_bits_Div64_Y5 : Type := Int × Int × Int × Bool
def math_bits_Div64_S5 (v : math_bits_Div64_Y5) : St := ⟨[(0, .int .u64 v.1), (1, .int .u64 v.2.1), (2, .int .u64 v.2.2.1), (27, .bool v.2.2.2)], []⟩
def math_bits_Div64_r5 (C : math_bits_Div64_C) (v : math_bits_Div64_Y3) : Dt math_bits_Div64_Y5 := (Dt.ret (v.1, v.2.1, v.2.2.1, (v.1 == (0:Int))))
theorem math_bits_Div64_g5 (C : math_bits_Div64_C) (v : math_bits_Div64_Y3) : treg tysT (orc (math_bits_Div64_tab C)) 135 (regO (bodyOf f107) 5) false [(0, .any), (1, .any), (2, .any), (27, .any)] (math_bits_Div64_S3 v) some = (math_bits_Div64_r5 C v).eval fun y => some (math_bits_Div64_S5 y) := by kernel_rfl
abbrev math_bits_Div64_Y6 : Type := Int × Int
def math_bits_Div64_S6 (v : math_bits_Div64_Y6) : St := ⟨[(6, .int .u64 v.1), (7, .int .u64 v.2)], []⟩
def math_bits_Div64_r6 (C : math_bits_Div64_C) (v : math_bits_Div64_Y5) : Dt math_bits_Div64_Y6 := (Dt.ite (v.2.2.1 == (0:Int)) Dt.fail (Dt.ite (v.2.2.1 == (0:Int)) Dt.fail (Dt.ret ((IntKind.wrap .u64 (Int.tdiv v.2.1 v.2.2.1)), (Int.tmod v.2.1 v.2.2.1)))))
theorem math_bits_Div64_g6 (C : math_bits_Div64_C) (v : math_bits_Div64_Y5) : treg tysT (orc (math_bits_Div64_tab C)) 135 (regO (bodyOf f107) 6) true [(6, .any), (7, .any)] (math_bits_Div64_S5 v) some = (math_bits_Div64_r6 C v).eval fun y => some (math_bits_Div64_S6 y) := by kernel_rfl
abbrev math_bits_Div64_Y7 : Type := Int × Int × Int × Int
def math_bits_Div64_S7 (v : math_bits_Div64_Y7) : St := ⟨[(0, .int .u64 v.1), (1, .int .u64 v.2.1), (2, .int .u64 v.2.2.1), (8, .int .u64 v.2.2.2)], []⟩
def math_bits_Div64_r7 (C : math_bits_Div64_C) (v : math_bits_Div64_Y5) : Dt math_bits_Div64_Y7 := (Dt.bnd (C.1 ((v.2.2.1, ()), ())) fun r1 => (Dt.ret (v.1, v.2.1, v.2.2.1, (IntKind.wrap .u64 r1))))
theorem math_bits_Div64_g7 (C : math_bits_Div64_C) (v : math_bits_Div64_Y5) : treg tysT (orc (math_bits_Div64_tab C)) 135 (regO (bodyOf f107) 7) false [(0, .any), (1, .any), (2, .any), (8, .any)] (math_bits_Div64_S5 v) some = (math_bits_Div64_r7 C v).eval fun y => some (math_bits_Div64_S7 y) := by kernel_rfl
def math_bits_Div64_r8 (C : math_bits_Div64_C) (v : math_bits_Div64_Y7) : Dt math_bits_Div64_Y7 := (Dt.ite (decide (v.2.2.2 < 0)) Dt.fail (Dt.ret (v.1, v.2.1, (shlI .u64 v.2.2.1 v.2.2.2), v.2.2.2)))
theorem math_bits_Div64_g8 (C : math_bits_Div64_C) (v : math_bits_Div64_Y7) : treg tysT (orc (math_bits_Div64_tab C)) 135 (regO (bodyOf f107) 8) false [(0, .any), (1, .any), (2, .any), (8, .any)] (math_bits_Div64_S7 v) some = (math_bits_Div64_r8 C v).eval fun y => some (math_bits_Div64_S7 y) := by kernel_rfl
abbrev math_bits_Div64_Y9 : Type := Int × Int × Int × Int × Int
def math_bits_Div64_S9 (v : math_bits_Div64_Y9) : St := ⟨[(0, .int .u64 v.1), (1, .int .u64 v.2.1), (2, .int .u64 v.2.2.1), (8, .int .u64 v.2.2.2.1), (9, .int .u64 v.2.2.2.2)], []⟩
def math_bits_Div64_r9 (C : math_bits_Div64_C) (v : math_bits_Div64_Y7) : Dt math_bits_Div64_Y9 := (Dt.ret (v.1, v.2.1, v.2.2.1, v.2.2.2, (shrI .u64 v.2.2.1 (32:Int))))
theorem math_bits_Div64_g9 (C : math_bits_Div64_C) (v : math_bits_Div64_Y7) : treg tysT (orc (math_bits_Div64_tab C)) 135 (regO (bodyOf f107) 9) false [(0, .any), (1, .any), (2, .any), (8, .any), (9, .any)] (math_bits_Div64_S7 v) some = (math_bits_Div64_r9 C v).eval fun y => some (math_bits_Div64_S9 y) := by kernel_rfl
abbrev math_bits_Div64_Y10 : Type := Int × Int × Int × Int × Int × Int
def math_bits_Div64_S10 (v : math_bits_Div64_Y10) : St := ⟨[(0, .int .u64 v.1), (1, .int .u64 v.2.1), (2, .int .u64 v.2.2.1), (8, .int .u64 v.2.2.2.1), (9, .int .u64 v.2.2.2.2.1), (10, .int .u64 v.2.2.2.2.2)], []⟩
def math_bits_Div64_r10 (C : math_bits_Div64_C) (v : math_bits_Div64_Y9) : Dt math_bits_Div64_Y10 := (Dt.ret (v.1, v.2.1, v.2.2.1, v.2.2.2.1, v.2.2.2.2, (andI .u64 v.2.2.1 (4294967295:Int))))
theorem math_bits_Div64_g10 (C : math_bits_Div64_C) (v : math_bits_Div64_Y9) : treg tysT (orc (math_bits_Div64_tab C)) 135 (regO (bodyOf f107) 10) false [(0, .any), (1, .any), (2, .any), (8, .any), (9, .any), (10, .any)] (math_bits_Div64_S9 v) some = (math_bits_Div64_r10 C v).eval fun y => some (math_bits_Div64_S10 y) := by kernel_rfl
abbrev math_bits_Div64_Y11 : Type := Int × Int × Int × Int × Int × Int
def math_bits_Div64_S11 (v : math_bits_Div64_Y11) : St := ⟨[(1, .int .u64 v.1), (2, .int .u64 v.2.1), (8, .int .u64 v.2.2.1), (9, .int .u64 v.2.2.2.1), (10, .int .u64 v.2.2.2.2.1), (11, .int .u64 v.2.2.2.2.2)], []⟩
def math_bits_Div64_r11 (C : math_bits_Div64_C) (v : math_bits_Div64_Y10) : Dt math_bits_Div64_Y11 := (Dt.ite (decide (v.2.2.2.1 < 0)) Dt.fail (Dt.ite (decide ((IntKind.wrap .u64 ((64:Int) - v.2.2.2.1)) < 0)) Dt.fail (Dt.ret (v.2.1, v.2.2.1, v.2.2.2.1, v.2.2.2.2.1, v.2.2.2.2.2, (orI .u64 (shlI .u64 v.1 v.2.2.2.1) (shrI .u64 v.2.1 (IntKind.wrap .u64 ((64:Int) - v.2.2.2.1))))))))
theorem math_bits_Div64_g11 (C : math_bits_Div64_C) (v : math_bits_Div64_Y10) : treg tysT (orc (math_bits_Div64_tab C)) 135 (regO (bodyOf f107) 11) false [(1, .any), (2, .any), (8, .any), (9, .any), (10, .any), (11, .any)] (math_bits_Div64_S10 v) some = (math_bits_Div64_r11 C v).eval fun y => some (math_bits_Div64_S11 y) := by kernel_rfl
abbrev math_bits_Div64_Y12 : Type := Int × Int × Int × Int × Int × Int
def math_bits_Div64_S12 (v : math_bits_Div64_Y12) : St := ⟨[(2, .int .u64 v.1), (8, .int .u64 v.2.1), (9, .int .u64 v.2.2.1), (10, .int .u64 v.2.2.2.1), (11, .int .u64 v.2.2.2.2.1), (12, .int .u64 v.2.2.2.2.2)], []⟩
def math_bits_Div64_r12 (C : math_bits_Div64_C) (v : math_bits_Div64_Y11) : Dt math_bits_Div64_Y12 := (Dt.ite (decide (v.2.2.1 < 0)) Dt.fail (Dt.ret (v.2.1, v.2.2.1, v.2.2.2.1, v.2.2.2.2.1, v.2.2.2.2.2, (shlI .u64 v.1 v.2.2.1))))
theorem math_bits_Div64_g12 (C : math_bits_Div64_C) (v : math_bits_Div64_Y11) : treg tysT (orc (math_bits_Div64_tab C)) 135 (regO (bodyOf f107) 12) false [(2, .any), (8, .any), (9, .any), (10, .any), (11, .any), (12, .any)] (math_bits_Div64_S11 v) some = (math_bits_Div64_r12 C v).eval fun y => some (math_bits_Div64_S12 y) := by kernel_rfl
abbrev math_bits_Div64_Y13 : Type := Int × Int × Int × Int × Int × Int × Int
def math_bits_Div64_S13 (v : math_bits_Div64_Y13) : St := ⟨[(2, .int .u64 v.1), (8, .int .u64 v.2.1), (9, .int .u64 v.2.2.1), (10, .int .u64 v.2.2.2.1), (11, .int .u64 v.2.2.2.2.1), (12, .int .u64 v.2.2.2.2.2.1), (13, .int .u64 v.2.2.2.2.2.2)], []⟩
def math_bits_Div64_r13 (C : math_bits_Div64_C) (v : math_bits_Div64_Y12) : Dt math_bits_Div64_Y13 := (Dt.ret (v.1, v.2.1, v.2.2.1, v.2.2.2.1, v.2.2.2.2.1, v.2.2.2.2.2, (shrI .u64 v.2.2.2.2.2 (32:Int))))
theorem math_bits_Div64_g13 (C : math_bits_Div64_C) (v : math_bits_Div64_Y12) : treg tysT (orc (math_bits_Div64_tab C)) 135 (regO (bodyOf f107) 13) false [(2, .any), (8, .any), (9, .any), (10, .any), (11, .any), (12, .any), (13, .any)] (math_bits_Div64_S12 v) some = (math_bits_Div64_r13 C v).eval fun y => some (math_bits_Div64_S13 y) := by kernel_rfl
abbrev math_bits_Div64_Y14 : Type := Int × Int × Int × Int × Int × Int × Int
def math_bits_Div64_S14 (v : math_bits_Div64_Y14) : St := ⟨[(2, .int .u64 v.1), (8, .int .u64 v.2.1), (9, .int .u64 v.2.2.1), (10, .int .u64 v.2.2.2.1), (11, .int .u64 v.2.2.2.2.1), (13, .int .u64 v.2.2.2.2.2.1), (14, .int .u64 v.2.2.2.2.2.2)], []⟩
def math_bits_Div64_r14 (C : math_bits_Div64_C) (v : math_bits_Div64_Y13) : Dt math_bits_Div64_Y14 := (Dt.ret (v.1, v.2.1, v.2.2.1, v.2.2.2.1, v.2.2.2.2.1, v.2.2.2.2.2.2, (andI .u64 v.2.2.2.2.2.1 (4294967295:Int))))
theorem math_bits_Div64_g14 (C : math_bits_Div64_C) (v : math_bits_Div64_Y13) : treg tysT (orc (math_bits_Div64_tab C)) 135 (regO (bodyOf f107) 14) false [(2, .any), (8, .any), (9, .any), (10, .any), (11, .any), (13, .any), (14, .any)] (math_bits_Div64_S13 v) some = (math_bits_Div64_r14 C v).eval fun y => some (math_bits_Div64_S14 y) := by kernel_rfl
abbrev math_bits_Div64_Y15 : Type := Int × Int × Int × Int × Int × Int × Int × Int
def math_bits_Div64_S15 (v : math_bits_Div64_Y15) : St := ⟨[(2, .int .u64 v.1), (8, .int .u64 v.2.1), (9, .int .u64 v.2.2.1), (10, .int .u64 v.2.2.2.1), (11, .int .u64 v.2.2.2.2.1), (13, .int .u64 v.2.2.2.2.2.1), (14, .int .u64 v.2.2.2.2.2.2.1), (15, .int .u64 v.2.2.2.2.2.2.2)], []⟩
def math_bits_Div64_r15 (C : math_bits_Div64_C) (v : math_bits_Div64_Y14) : Dt math_bits_Div64_Y15 := (Dt.ite (v.2.2.1 == (0:Int)) Dt.fail (Dt.ret (v.1, v.2.1, v.2.2.1, v.2.2.2.1, v.2.2.2.2.1, v.2.2.2.2.2.1, v.2.2.2.2.2.2, (IntKind.wrap .u64 (Int.tdiv v.2.2.2.2.1 v.2.2.1)))))
theorem math_bits_Div64_g15 (C : math_bits_Div64_C) (v : math_bits_Div64_Y14) : treg tysT (orc (math_bits_Div64_tab C)) 135 (regO (bodyOf f107) 15) false [(2, .any), (8, .any), (9, .any), (10, .any), (11, .any), (13, .any), (14, .any), (15, .any)] (math_bits_Div64_S14 v) some = (math_bits_Div64_r15 C v).eval fun y => some (math_bits_Div64_S15 y) := by kernel_rfl
abbrev math_bits_Div64_Y16 : Type := Int × Int × Int × Int × Int × Int × Int × Int × Int
def math_bits_Div64_S16 (v : math_bits_Div64_Y16) : St := ⟨[(2, .int .u64 v.1), (8, .int .u64 v.2.1), (9, .int .u64 v.2.2.1), (10, .int .u64 v.2.2.2.1), (11, .int .u64 v.2.2.2.2.1), (13, .int .u64 v.2.2.2.2.2.1), (14, .int .u64 v.2.2.2.2.2.2.1), (15, .int .u64 v.2.2.2.2.2.2.2.1), (16, .int .u64 v.2.2.2.2.2.2.2.2)], []⟩
def math_bits_Div64_r16 (C : math_bits_Div64_C) (v : math_bits_Div64_Y15) : Dt math_bits_Div64_Y16 := (Dt.ret (v.1, v.2.1, v.2.2.1, v.2.2.2.1, v.2.2.2.2.1, v.2.2.2.2.2.1, v.2.2.2.2.2.2.1, v.2.2.2.2.2.2.2, (IntKind.wrap .u64 (v.2.2.2.2.1 - (IntKind.wrap .u64 (v.2.2.2.2.2.2.2 * v.2.2.1))))))
theorem math_bits_Div64_g16 (C : math_bits_Div64_C) (v : math_bits_Div64_Y15) : treg tysT (orc (math_bits_Div64_tab C)) 135 (regO (bodyOf f107) 16) false [(2, .any), (8, .any), (9, .any), (10, .any), (11, .any), (13, .any), (14, .any), (15, .any), (16, .any)] (math_bits_Div64_S15 v) some = (math_bits_Div64_r16 C v).eval fun y => some (math_bits_Div64_S16 y) := by kernel_rfl
abbrev math_bits_Div64_Y17 : Type := Int × Int × Int × Int × Int × Int × Int × Int × Int × Bool
def math_bits_Div64_S17 (v : math_bits_Div64_Y17) : St := ⟨[(2, .int .u64 v.1), (8, .int .u64 v.2.1), (9, .int .u64 v.2.2.1), (10, .int .u64 v.2.2.2.1), (11, .int .u64 v.2.2.2.2.1), (13, .int .u64 v.2.2.2.2.2.1), (14, .int .u64 v.2.2.2.2.2.2.1), (15, .int .u64 v.2.2.2.2.2.2.2.1), (16, .int .u64 v.2.2.2.2.2.2.2.2.1), (78, .bool v.2.2.2.2.2.2.2.2.2)], []⟩
def math_bits_Div64_r17 (C : math_bits_Div64_C) (v : math_bits_Div64_Y16) : Dt math_bits_Div64_Y17 := (Dt.ite (decide (v.2.2.2.2.2.2.2.1 ≥ (4294967296:Int))) (Dt.ret (v.1, v.2.1, v.2.2.1, v.2.2.2.1, v.2.2.2.2.1, v.2.2.2.2.2.1, v.2.2.2.2.2.2.1, v.2.2.2.2.2.2.2.1, v.2.2.2.2.2.2.2.2, true)) (Dt.ret (v.1, v.2.1, v.2.2.1, v.2.2.2.1, v.2.2.2.2.1, v.2.2.2.2.2.1, v.2.2.2.2.2.2.1, v.2.2.2.2.2.2.2.1, v.2.2.2.2.2.2.2.2, (decide ((IntKind.wrap .u64 (v.2.2.2.2.2.2.2.1 * v.2.2.2.1)) > (IntKind.wrap .u64 ((IntKind.wrap .u64 ((4294967296:Int) * v.2.2.2.2.2.2.2.2)) + v.2.2.2.2.2.1)))))))
theorem math_bits_Div64_g17 (C : math_bits_Div64_C) (v : math_bits_Div64_Y16) : treg tysT (orc (math_bits_Div64_tab C)) 135 (regO (bodyOf f107) 17) false [(2, .any), (8, .any), (9, .any), (10, .any), (11, .any), (13, .any), (14, .any), (15, .any), (16, .any), (78, .any)] (math_bits_Div64_S16 v) some = (math_bits_Div64_r17 C v).eval fun y => some (math_bits_Div64_S17 y) := by kernel_rfl
def math_bits_Div64_r18 (C : math_bits_Div64_C) (v : math_bits_Div64_Y17) : Dt math_bits_Div64_Y16 := (Dt.ret (v.1, v.2.1, v.2.2.1, v.2.2.2.1, v.2.2.2.2.1, v.2.2.2.2.2.1, v.2.2.2.2.2.2.1, (IntKind.wrap .u64 (v.2.2.2.2.2.2.2.1 - (1:Int))), v.2.2.2.2.2.2.2.2.1))
theorem math_bits_Div64_g18 (C : math_bits_Div64_C) (v : math_bits_Div64_Y17) : treg tysT (orc (math_bits_Div64_tab C)) 135 (regO (bodyOf f107) 18) false [(2, .any), (8, .any), (9, .any), (10, .any), (11, .any), (13, .any), (14, .any), (15, .any), (16, .any)] (math_bits_Div64_S17 v) some = (math_bits_Div64_r18 C v).eval fun y => some (math_bits_Div64_S16 y) := by kernel_rfl
def math_bits_Div64_r19 (C : math_bits_Div64_C) (v : math_bits_Div64_Y16) : Dt math_bits_Div64_Y16 := (Dt.ret (v.1, v.2.1, v.2.2.1, v.2.2.2.1, v.2.2.2.2.1, v.2.2.2.2.2.1, v.2.2.2.2.2.2.1, v.2.2.2.2.2.2.2.1, (IntKind.wrap .u64 (v.2.2.2.2.2.2.2.2 + v.2.2.1))))
theorem math_bits_Div64_g19 (C : math_bits_Div64_C) (v : math_bits_Div64_Y16) : treg tysT (orc (math_bits_Div64_tab C)) 135 (regO (bodyOf f107) 19) false [(2, .any), (8, .any), (9, .any), (10, .any), (11, .any), (13, .any), (14, .any), (15, .any), (16, .any)] (math_bits_Div64_S16 v) some = (math_bits_Div64_r19 C v).eval fun y => some (math_bits_Div64_S16 y) := by kernel_rfl
abbrev math_bits_Div64_Y20 : Type := Int × Int × Int × Int × Int × Int × Int × Int × Int × Bool
def math_bits_Div64_S20 (v : math_bits_Div64_Y20) : St := ⟨[(2, .int .u64 v.1), (8, .int .u64 v.2.1), (9, .int .u64 v.2.2.1), (10, .int .u64 v.2.2.2.1), (11, .int .u64 v.2.2.2.2.1), (13, .int .u64 v.2.2.2.2.2.1), (14, .int .u64 v.2.2.2.2.2.2.1), (15, .int .u64 v.2.2.2.2.2.2.2.1), (16, .int .u64 v.2.2.2.2.2.2.2.2.1), (85, .bool v.2.2.2.2.2.2.2.2.2)], []⟩
def math_bits_Div64_r20 (C : math_bits_Div64_C) (v : math_bits_Div64_Y16) : Dt math_bits_Div64_Y20 := (Dt.ret (v.1, v.2.1, v.2.2.1, v.2.2.2.1, v.2.2.2.2.1, v.2.2.2.2.2.1, v.2.2.2.2.2.2.1, v.2.2.2.2.2.2.2.1, v.2.2.2.2.2.2.2.2, (decide (v.2.2.2.2.2.2.2.2 ≥ (4294967296:Int)))))
theorem math_bits_Div64_g20 (C : math_bits_Div64_C) (v : math_bits_Div64_Y16) : treg tysT (orc (math_bits_Div64_tab C)) 135 (regO (bodyOf f107) 20) false [(2, .any), (8, .any), (9, .any), (10, .any), (11, .any), (13, .any), (14, .any), (15, .any), (16, .any), (85, .any)] (math_bits_Div64_S16 v) some = (math_bits_Div64_r20 C v).eval fun y => some (math_bits_Div64_S20 y) := by kernel_rfl
abbrev math_bits_Div64_Y21 : Type := Int × Int × Int × Int × Int × Int × Int
def math_bits_Div64_S21 (v : math_bits_Div64_Y21) : St := ⟨[(2, .int .u64 v.1), (8, .int .u64 v.2.1), (9, .int .u64 v.2.2.1), (10, .int .u64 v.2.2.2.1), (14, .int .u64 v.2.2.2.2.1), (15, .int .u64 v.2.2.2.2.2.1), (17, .int .u64 v.2.2.2.2.2.2)], []⟩
def math_bits_Div64_r21 (C : math_bits_Div64_C) (v : math_bits_Div64_Y16) : Dt math_bits_Div64_Y21 := (Dt.ret (v.1, v.2.1, v.2.2.1, v.2.2.2.1, v.2.2.2.2.2.2.1, v.2.2.2.2.2.2.2.1, (IntKind.wrap .u64 ((IntKind.wrap .u64 ((IntKind.wrap .u64 (v.2.2.2.2.1 * (4294967296:Int))) + v.2.2.2.2.2.1)) - (IntKind.wrap .u64 (v.2.2.2.2.2.2.2.1 * v.1))))))
theorem math_bits_Div64_g21 (C : math_bits_Div64_C) (v : math_bits_Div64_Y16) : treg tysT (orc (math_bits_Div64_tab C)) 135 (regO (bodyOf f107) 21) false [(2, .any), (8, .any), (9, .any), (10, .any), (14, .any), (15, .any), (17, .any)] (math_bits_Div64_S16 v) some = (math_bits_Div64_r21 C v).eval fun y => some (math_bits_Div64_S21 y) := by kernel_rfl
abbrev math_bits_Div64_Y22 : Type := Int × Int × Int × Int × Int × Int × Int × Int
def math_bits_Div64_S22 (v : math_bits_Div64_Y22) : St := ⟨[(2, .int .u64 v.1), (8, .int .u64 v.2.1), (9, .int .u64 v.2.2.1), (10, .int .u64 v.2.2.2.1), (14, .int .u64 v.2.2.2.2.1), (15, .int .u64 v.2.2.2.2.2.1), (17, .int .u64 v.2.2.2.2.2.2.1), (18, .int .u64 v.2.2.2.2.2.2.2)], []⟩
def math_bits_Div64_r22 (C : math_bits_Div64_C) (v : math_bits_Div64_Y21) : Dt math_bits_Div64_Y22 := (Dt.ite (v.2.2.1 == (0:Int)) Dt.fail (Dt.ret (v.1, v.2.1, v.2.2.1, v.2.2.2.1, v.2.2.2.2.1, v.2.2.2.2.2.1, v.2.2.2.2.2.2, (IntKind.wrap .u64 (Int.tdiv v.2.2.2.2.2.2 v.2.2.1)))))
theorem math_bits_Div64_g22 (C : math_bits_Div64_C) (v : math_bits_Div64_Y21) : treg tysT (orc (math_bits_Div64_tab C)) 135 (regO (bodyOf f107) 22) false [(2, .any), (8, .any), (9, .any), (10, .any), (14, .any), (15, .any), (17, .any), (18, .any)] (math_bits_Div64_S21 v) some = (math_bits_Div64_r22 C v).eval fun y => some (math_bits_Div64_S22 y) := by kernel_rfl
abbrev math_bits_Div64_Y23 : Type := Int × Int × Int × Int × Int × Int × Int × Int × Int
def math_bits_Div64_S23 (v : math_bits_Div64_Y23) : St := ⟨[(2, .int .u64 v.1), (8, .int .u64 v.2.1), (9, .int .u64 v.2.2.1), (10, .int .u64 v.2.2.2.1), (14, .int .u64 v.2.2.2.2.1), (15, .int .u64 v.2.2.2.2.2.1), (16, .int .u64 v.2.2.2.2.2.2.1), (17, .int .u64 v.2.2.2.2.2.2.2.1), (18, .int .u64 v.2.2.2.2.2.2.2.2)], []⟩
def math_bits_Div64_r23 (C : math_bits_Div64_C) (v : math_bits_Div64_Y22) : Dt math_bits_Div64_Y23 := (Dt.ret (v.1, v.2.1, v.2.2.1, v.2.2.2.1, v.2.2.2.2.1, v.2.2.2.2.2.1, (IntKind.wrap .u64 (v.2.2.2.2.2.2.1 - (IntKind.wrap .u64 (v.2.2.2.2.2.2.2 * v.2.2.1)))), v.2.2.2.2.2.2.1, v.2.2.2.2.2.2.2))
theorem math_bits_Div64_g23 (C : math_bits_Div64_C) (v : math_bits_Div64_Y22) : treg tysT (orc (math_bits_Div64_tab C)) 135 (regO (bodyOf f107) 23) false [(2, .any), (8, .any), (9, .any), (10, .any), (14, .any), (15, .any), (16, .any), (17, .any), (18, .any)] (math_bits_Div64_S22 v) some = (math_bits_Div64_r23 C v).eval fun y => some (math_bits_Div64_S23 y) := by kernel_rfl
abbrev math_bits_Div64_Y24 : Type := Int × Int × Int × Int × Int × Int × Int × Int × Int × Bool
def math_bits_Div64_S24 (v : math_bits_Div64_Y24) : St := ⟨[(2, .int .u64 v.1), (8, .int .u64 v.2.1), (9, .int .u64 v.2.2.1), (10, .int .u64 v.2.2.2.1), (14, .int .u64 v.2.2.2.2.1), (15, .int .u64 v.2.2.2.2.2.1), (16, .int .u64 v.2.2.2.2.2.2.1), (17, .int .u64 v.2.2.2.2.2.2.2.1), (18, .int .u64 v.2.2.2.2.2.2.2.2.1), (113, .bool v.2.2.2.2.2.2.2.2.2)], []⟩
def math_bits_Div64_r24 (C : math_bits_Div64_C) (v : math_bits_Div64_Y23) : Dt math_bits_Div64_Y24 := (Dt.ite (decide (v.2.2.2.2.2.2.2.2 ≥ (4294967296:Int))) (Dt.ret (v.1, v.2.1, v.2.2.1, v.2.2.2.1, v.2.2.2.2.1, v.2.2.2.2.2.1, v.2.2.2.2.2.2.1, v.2.2.2.2.2.2.2.1, v.2.2.2.2.2.2.2.2, true)) (Dt.ret (v.1, v.2.1, v.2.2.1, v.2.2.2.1, v.2.2.2.2.1, v.2.2.2.2.2.1, v.2.2.2.2.2.2.1, v.2.2.2.2.2.2.2.1, v.2.2.2.2.2.2.2.2, (decide ((IntKind.wrap .u64 (v.2.2.2.2.2.2.2.2 * v.2.2.2.1)) > (IntKind.wrap .u64 ((IntKind.wrap .u64 ((4294967296:Int) * v.2.2.2.2.2.2.1)) + v.2.2.2.2.1)))))))
theorem math_bits_Div64_g24 (C : math_bits_Div64_C) (v : math_bits_Div64_Y23) : treg tysT (orc (math_bits_Div64_tab C)) 135 (regO (bodyOf f107) 24) false [(2, .any), (8, .any), (9, .any), (10, .any), (14, .any), (15, .any), (16, .any), (17, .any), (18, .any), (113, .any)] (math_bits_Div64_S23 v) some = (math_bits_Div64_r24 C v).eval fun y => some (math_bits_Div64_S24 y) := by kernel_rfl
def math_bits_Div64_r25 (C : math_bits_Div64_C) (v : math_bits_Div64_Y24) : Dt math_bits_Div64_Y23 := (Dt.ret (v.1, v.2.1, v.2.2.1, v.2.2.2.1, v.2.2.2.2.1, v.2.2.2.2.2.1, v.2.2.2.2.2.2.1, v.2.2.2.2.2.2.2.1, (IntKind.wrap .u64 (v.2.2.2.2.2.2.2.2.1 - (1:Int)))))
theorem math_bits_Div64_g25 (C : math_bits_Div64_C) (v : math_bits_Div64_Y24) : treg tysT (orc (math_bits_Div64_tab C)) 135 (regO (bodyOf f107) 25) false [(2, .any), (8, .any), (9, .any), (10, .any), (14, .any), (15, .any), (16, .any), (17, .any), (18, .any)] (math_bits_Div64_S24 v) some = (math_bits_Div64_r25 C v).eval fun y => some (math_bits_Div64_S23 y) := by kernel_rfl
def math_bits_Div64_r26 (C : math_bits_Div64_C) (v : math_bits_Div64_Y23) : Dt math_bits_Div64_Y23 := (Dt.ret (v.1, v.2.1, v.2.2.1, v.2.2.2.1, v.2.2.2.2.1, v.2.2.2.2.2.1, (IntKind.wrap .u64 (v.2.2.2.2.2.2.1 + v.2.2.1)), v.2.2.2.2.2.2.2.1, v.2.2.2.2.2.2.2.2))
theorem math_bits_Div64_g26 (C : math_bits_Div64_C) (v : math_bits_Div64_Y23) : treg tysT (orc (math_bits_Div64_tab C)) 135 (regO (bodyOf f107) 26) false [(2, .any), (8, .any), (9, .any), (10, .any), (14, .any), (15, .any), (16, .any), (17, .any), (18, .any)] (math_bits_Div64_S23 v) some = (math_bits_Div64_r26 C v).eval fun y => some (math_bits_Div64_S23 y) := by kernel_rfl
abbrev math_bits_Div64_Y27 : Type := Int × Int × Int × Int × Int × Int × Int × Int × Int × Bool
def math_bits_Div64_S27 (v : math_bits_Div64_Y27) : St := ⟨[(2, .int .u64 v.1), (8, .int .u64 v.2.1), (9, .int .u64 v.2.2.1), (10, .int .u64 v.2.2.2.1), (14, .int .u64 v.2.2.2.2.1), (15, .int .u64 v.2.2.2.2.2.1), (16, .int .u64 v.2.2.2.2.2.2.1), (17, .int .u64 v.2.2.2.2.2.2.2.1), (18, .int .u64 v.2.2.2.2.2.2.2.2.1), (120, .bool v.2.2.2.2.2.2.2.2.2)], []⟩
def math_bits_Div64_r27 (C : math_bits_Div64_C) (v : math_bits_Div64_Y23) : Dt math_bits_Div64_Y27 := (Dt.ret (v.1, v.2.1, v.2.2.1, v.2.2.2.1, v.2.2.2.2.1, v.2.2.2.2.2.1, v.2.2.2.2.2.2.1, v.2.2.2.2.2.2.2.1, v.2.2.2.2.2.2.2.2, (decide (v.2.2.2.2.2.2.1 ≥ (4294967296:Int)))))
theorem math_bits_Div64_g27 (C : math_bits_Div64_C) (v : math_bits_Div64_Y23) : treg tysT (orc (math_bits_Div64_tab C)) 135 (regO (bodyOf f107) 27) false [(2, .any), (8, .any), (9, .any), (10, .any), (14, .any), (15, .any), (16, .any), (17, .any), (18, .any), (120, .any)] (math_bits_Div64_S23 v) some = (math_bits_Div64_r27 C v).eval fun y => some (math_bits_Div64_S27 y) := by kernel_rfl
def math_bits_Div64_r28 (C : math_bits_Div64_C) (v : math_bits_Div64_Y23) : Dt math_bits_Div64_Y6 := (Dt.ite (decide (v.2.1 < 0)) Dt.fail (Dt.ret ((IntKind.wrap .u64 ((IntKind.wrap .u64 (v.2.2.2.2.2.1 * (4294967296:Int))) + v.2.2.2.2.2.2.2.2)), (shrI .u64 (IntKind.wrap .u64 ((IntKind.wrap .u64 ((IntKind.wrap .u64 (v.2.2.2.2.2.2.2.1 * (4294967296:Int))) + v.2.2.2.2.1)) - (IntKind.wrap .u64 (v.2.2.2.2.2.2.2.2 * v.1)))) v.2.1))))
theorem math_bits_Div64_g28 (C : math_bits_Div64_C) (v : math_bits_Div64_Y23) : treg tysT (orc (math_bits_Div64_tab C)) 135 (regO (bodyOf f107) 28) false [(6, .any), (7, .any)] (math_bits_Div64_S23 v) some = (math_bits_Div64_r28 C v).eval fun y => some (math_bits_Div64_S6 y) := by kernel_rfl
def math_bits_Div64_J5  (d : Nat)  (z : Int × Int × Int × Int × Int × Int × Int × Int × Int) : Option (math_bits_Div64_R) :=
  (math_bits_Div64_r28 (math_bits_Div64_K d) z).eval fun y28 =>
  some y28
def math_bits_Div64_L6 (d : Nat) (self6 : (Int × Int × Int × Int × Int × Int × Int × Int × Int) → Option math_bits_Div64_R) (x6 : Int × Int × Int × Int × Int × Int × Int × Int × Int) : Option math_bits_Div64_R :=
  (math_bits_Div64_r24 (math_bits_Div64_K d) x6).eval fun y24 =>
  bif y24.2.2.2.2.2.2.2.2.2 then ((math_bits_Div64_r25 (math_bits_Div64_K d) y24).eval fun y25 =>
  (math_bits_Div64_r26 (math_bits_Div64_K d) y25).eval fun y26 =>
  (math_bits_Div64_r27 (math_bits_Div64_K d) y26).eval fun y27 =>
  bif y27.2.2.2.2.2.2.2.2.2 then (math_bits_Div64_J5 d  (y27.1, y27.2.1, y27.2.2.1, y27.2.2.2.1, y27.2.2.2.2.1, y27.2.2.2.2.2.1, y27.2.2.2.2.2.2.1, y27.2.2.2.2.2.2.2.1, y27.2.2.2.2.2.2.2.2.1)) else (self6 (y27.1, y27.2.1, y27.2.2.1, y27.2.2.2.1, y27.2.2.2.2.1, y27.2.2.2.2.2.1, y27.2.2.2.2.2.2.1, y27.2.2.2.2.2.2.2.1, y27.2.2.2.2.2.2.2.2.1))) else (math_bits_Div64_J5 d  (y24.1, y24.2.1, y24.2.2.1, y24.2.2.2.1, y24.2.2.2.2.1, y24.2.2.2.2.2.1, y24.2.2.2.2.2.2.1, y24.2.2.2.2.2.2.2.1, y24.2.2.2.2.2.2.2.2.1))
def math_bits_Div64_J3  (d : Nat)  (z : Int × Int × Int × Int × Int × Int × Int × Int × Int) : Option (math_bits_Div64_R) :=
  (math_bits_Div64_r21 (math_bits_Div64_K d) z).eval fun y21 =>
  (math_bits_Div64_r22 (math_bits_Div64_K d) y21).eval fun y22 =>
  (math_bits_Div64_r23 (math_bits_Div64_K d) y22).eval fun y23 =>
  iter (math_bits_Div64_L6 d ) d y23
def math_bits_Div64_L4 (d : Nat) (self4 : (Int × Int × Int × Int × Int × Int × Int × Int × Int) → Option math_bits_Div64_R) (x4 : Int × Int × Int × Int × Int × Int × Int × Int × Int) : Option math_bits_Div64_R :=
  (math_bits_Div64_r17 (math_bits_Div64_K d) x4).eval fun y17 =>
  bif y17.2.2.2.2.2.2.2.2.2 then ((math_bits_Div64_r18 (math_bits_Div64_K d) y17).eval fun y18 =>
  (math_bits_Div64_r19 (math_bits_Div64_K d) y18).eval fun y19 =>
  (math_bits_Div64_r20 (math_bits_Div64_K d) y19).eval fun y20 =>
  bif y20.2.2.2.2.2.2.2.2.2 then (math_bits_Div64_J3 d  (y20.1, y20.2.1, y20.2.2.1, y20.2.2.2.1, y20.2.2.2.2.1, y20.2.2.2.2.2.1, y20.2.2.2.2.2.2.1, y20.2.2.2.2.2.2.2.1, y20.2.2.2.2.2.2.2.2.1)) else (self4 (y20.1, y20.2.1, y20.2.2.1, y20.2.2.2.1, y20.2.2.2.2.1, y20.2.2.2.2.2.1, y20.2.2.2.2.2.2.1, y20.2.2.2.2.2.2.2.1, y20.2.2.2.2.2.2.2.2.1))) else (math_bits_Div64_J3 d  (y17.1, y17.2.1, y17.2.2.1, y17.2.2.2.1, y17.2.2.2.2.1, y17.2.2.2.2.2.1, y17.2.2.2.2.2.2.1, y17.2.2.2.2.2.2.2.1, y17.2.2.2.2.2.2.2.2.1))
def math_bits_Div64_J2  (d : Nat)  (z : Int × Int × Int × Bool) : Option (math_bits_Div64_R) :=
  (math_bits_Div64_r5 (math_bits_Div64_K d) z).eval fun y5 =>
  bif y5.2.2.2 then ((math_bits_Div64_r6 (math_bits_Div64_K d) y5).eval fun y6 =>
  some y6) else ((math_bits_Div64_r7 (math_bits_Div64_K d) y5).eval fun y7 =>
  (math_bits_Div64_r8 (math_bits_Div64_K d) y7).eval fun y8 =>
  (math_bits_Div64_r9 (math_bits_Div64_K d) y8).eval fun y9 =>
  (math_bits_Div64_r10 (math_bits_Div64_K d) y9).eval fun y10 =>
  (math_bits_Div64_r11 (math_bits_Div64_K d) y10).eval fun y11 =>
  (math_bits_Div64_r12 (math_bits_Div64_K d) y11).eval fun y12 =>
  (math_bits_Div64_r13 (math_bits_Div64_K d) y12).eval fun y13 =>
  (math_bits_Div64_r14 (math_bits_Div64_K d) y13).eval fun y14 =>
  (math_bits_Div64_r15 (math_bits_Div64_K d) y14).eval fun y15 =>
  (math_bits_Div64_r16 (math_bits_Div64_K d) y15).eval fun y16 =>
  iter (math_bits_Div64_L4 d ) d y16)
def math_bits_Div64_J1  (d : Nat)  (z : Int × Int × Int × Bool) : Option (math_bits_Div64_R) :=
  (math_bits_Div64_r3 (math_bits_Div64_K d) z).eval fun y3 =>
  bif y3.2.2.2 then (none) else (math_bits_Div64_J2 d  y3)
def F_math_bits_Div64 (d : Nat) (x : math_bits_Div64_X) : Option math_bits_Div64_R :=
  (math_bits_Div64_r0 (math_bits_Div64_K d) (x.1.1, x.2.1.1, x.2.2.1.1)).eval fun y0 =>
  (math_bits_Div64_r1 (math_bits_Div64_K d) y0).eval fun y1 =>
  bif y1.2.2.2 then (none) else (math_bits_Div64_J1 d  y1)
theorem math_bits_Div64_cok (d : Nat) : COK prog (math_bits_Div64_sp (F_math_bits_Div64 d)) := by
  have hm : prog.follows .mixedOrders = true := mixed
  have hT := tys
  have hC0 : OrcOK prog (orc (math_bits_Div64_tab (math_bits_Div64_K d))) := orc_ok (by
    intro S hS
    simp only [math_bits_Div64_tab, List.mem_cons, List.not_mem_nil, or_false] at hS
    subst hS; exact math_bits_LeadingZeros64_cok d)
  have hC : OrcOK prog (orc (math_bits_Div64_tab (math_bits_Div64_K d))) := hC0
  refine cok_of (c := bodyOf f107) (fn := f107) hT (by kernel_rfl) (by kernel_rfl) (by decide) fun x r h w0 φ0 Q hend => ?_
  replace h : F_math_bits_Div64 d x = some r := h
  unfold F_math_bits_Div64 at h
  show Run prog w0 φ0 135 (bodyOf f107) ⟨[(0, .int .u64 x.1.1), (1, .int .u64 x.2.1.1), (2, .int .u64 x.2.2.1.1)], []⟩ Q
  refine run_seq ?_
  refine run_reg hm hT hC (math_bits_Div64_g0 (math_bits_Div64_K d) (x.1.1, x.2.1.1, x.2.2.1.1)) h ?_
  intro y0 h
  refine cn_then ?_
  refine run_join (r := r) (F := math_bits_Div64_J1 d ) (S := (fun z => ⟨[(0, .int .u64 z.1), (1, .int .u64 z.2.1), (2, .int .u64 z.2.2.1), (20, .bool z.2.2.2)], []⟩ : Int × Int × Int × Bool → St)) ?_ ?_
  ·
    intro z h
    unfold math_bits_Div64_J1 at h
    refine run_join (r := r) (F := math_bits_Div64_J2 d ) (S := (fun z => ⟨[(0, .int .u64 z.1), (1, .int .u64 z.2.1), (2, .int .u64 z.2.2.1), (24, .bool z.2.2.2)], []⟩ : Int × Int × Int × Bool → St)) ?_ ?_
    ·
      intro z h
      unfold math_bits_Div64_J2 at h
      refine run_seq ?_
      refine run_seq ?_
      refine run_reg hm hT hC (math_bits_Div64_g5 (math_bits_Div64_K d) z) h ?_
      intro y5 h
      refine cn_then ?_
      refine run_cond (v := y5.2.2.2) (by kernel_rfl) h ?_ ?_
      ·
        intro h
        refine run_seq ?_
        refine run_reg hm hT hC (math_bits_Div64_g6 (math_bits_Div64_K d) y5) h ?_
        intro y6 h
        refine cn_then ?_
        refine run_ret ?_
        refine cn_then_ret ?_
        cases h
        exact (hend _ (by kernel_rfl)).2
      ·
        intro h
        refine run_skip ?_
        refine cn_then ?_
        refine run_seq ?_
        refine run_reg hm hT hC (math_bits_Div64_g7 (math_bits_Div64_K d) y5) h ?_
        intro y7 h
        refine cn_then ?_
        refine run_seq ?_
        refine run_reg hm hT hC (math_bits_Div64_g8 (math_bits_Div64_K d) y7) h ?_
        intro y8 h
        refine cn_then ?_
        refine run_seq ?_
        refine run_reg hm hT hC (math_bits_Div64_g9 (math_bits_Div64_K d) y8) h ?_
        intro y9 h
        refine cn_then ?_
        refine run_seq ?_
        refine run_reg hm hT hC (math_bits_Div64_g10 (math_bits_Div64_K d) y9) h ?_
        intro y10 h
        refine cn_then ?_
        refine run_seq ?_
        refine run_reg hm hT hC (math_bits_Div64_g11 (math_bits_Div64_K d) y10) h ?_
        intro y11 h
        refine cn_then ?_
        refine run_seq ?_
        refine run_reg hm hT hC (math_bits_Div64_g12 (math_bits_Div64_K d) y11) h ?_
        intro y12 h
        refine cn_then ?_
        refine run_seq ?_
        refine run_reg hm hT hC (math_bits_Div64_g13 (math_bits_Div64_K d) y12) h ?_
        intro y13 h
        refine cn_then ?_
        refine run_seq ?_
        refine run_reg hm hT hC (math_bits_Div64_g14 (math_bits_Div64_K d) y13) h ?_
        intro y14 h
        refine cn_then ?_
        refine run_seq ?_
        refine run_reg hm hT hC (math_bits_Div64_g15 (math_bits_Div64_K d) y14) h ?_
        intro y15 h
        refine cn_then ?_
        refine run_seq ?_
        refine run_reg hm hT hC (math_bits_Div64_g16 (math_bits_Div64_K d) y15) h ?_
        intro y16 h
        refine cn_then ?_
        refine run_join (r := r) (F := math_bits_Div64_J3 d ) (S := (fun z => ⟨[(2, .int .u64 z.1), (8, .int .u64 z.2.1), (9, .int .u64 z.2.2.1), (10, .int .u64 z.2.2.2.1), (11, .int .u64 z.2.2.2.2.1), (13, .int .u64 z.2.2.2.2.2.1), (14, .int .u64 z.2.2.2.2.2.2.1), (15, .int .u64 z.2.2.2.2.2.2.2.1), (16, .int .u64 z.2.2.2.2.2.2.2.2)], []⟩ : Int × Int × Int × Int × Int × Int × Int × Int × Int → St)) ?_ ?_
        ·
          intro z h
          unfold math_bits_Div64_J3 at h
          refine run_seq ?_
          refine run_reg hm hT hC (math_bits_Div64_g21 (math_bits_Div64_K d) z) h ?_
          intro y21 h
          refine cn_then ?_
          refine run_seq ?_
          refine run_reg hm hT hC (math_bits_Div64_g22 (math_bits_Div64_K d) y21) h ?_
          intro y22 h
          refine cn_then ?_
          refine run_seq ?_
          refine run_reg hm hT hC (math_bits_Div64_g23 (math_bits_Div64_K d) y22) h ?_
          intro y23 h
          refine cn_then ?_
          refine run_join (r := r) (F := math_bits_Div64_J5 d ) (S := (fun z => ⟨[(2, .int .u64 z.1), (8, .int .u64 z.2.1), (9, .int .u64 z.2.2.1), (10, .int .u64 z.2.2.2.1), (14, .int .u64 z.2.2.2.2.1), (15, .int .u64 z.2.2.2.2.2.1), (16, .int .u64 z.2.2.2.2.2.2.1), (17, .int .u64 z.2.2.2.2.2.2.2.1), (18, .int .u64 z.2.2.2.2.2.2.2.2)], []⟩ : Int × Int × Int × Int × Int × Int × Int × Int × Int → St)) ?_ ?_
          ·
            intro z h
            unfold math_bits_Div64_J5 at h
            refine run_seq ?_
            refine run_reg hm hT hC (math_bits_Div64_g28 (math_bits_Div64_K d) z) h ?_
            intro y28 h
            refine cn_then ?_
            refine run_ret ?_
            cases h
            exact (hend _ (by kernel_rfl)).2
          intro hj5
          refine run_block ?_
          refine run_loop (G := iter (math_bits_Div64_L6 d )) (S := (fun x6 => ⟨[(2, .int .u64 x6.1), (8, .int .u64 x6.2.1), (9, .int .u64 x6.2.2.1), (10, .int .u64 x6.2.2.2.1), (14, .int .u64 x6.2.2.2.2.1), (15, .int .u64 x6.2.2.2.2.2.1), (16, .int .u64 x6.2.2.2.2.2.2.1), (17, .int .u64 x6.2.2.2.2.2.2.2.1), (18, .int .u64 x6.2.2.2.2.2.2.2.2)], []⟩ : Int × Int × Int × Int × Int × Int × Int × Int × Int → St)) (fun _ => rfl) ?_ d _ h
          intro n6 x6 h K6 hn6
          replace h : math_bits_Div64_L6 d  (iter (math_bits_Div64_L6 d ) n6) x6 = some r := h
          generalize iter (math_bits_Div64_L6 d ) n6 = self6 at h hn6
          unfold math_bits_Div64_L6 at h
          refine run_seq ?_
          refine run_seq ?_
          refine run_reg hm hT hC (math_bits_Div64_g24 (math_bits_Div64_K d) x6) h ?_
          intro y24 h
          refine cn_then ?_
          refine run_cond (v := y24.2.2.2.2.2.2.2.2.2) (by kernel_rfl) h ?_ ?_
          ·
            intro h
            refine run_skip ?_
            refine cn_then ?_
            refine run_block ?_
            refine run_seq ?_
            refine run_reg hm hT hC (math_bits_Div64_g25 (math_bits_Div64_K d) y24) h ?_
            intro y25 h
            refine cn_then ?_
            refine run_seq ?_
            refine run_reg hm hT hC (math_bits_Div64_g26 (math_bits_Div64_K d) y25) h ?_
            intro y26 h
            refine cn_then ?_
            refine run_seq ?_
            refine run_reg hm hT hC (math_bits_Div64_g27 (math_bits_Div64_K d) y26) h ?_
            intro y27 h
            refine cn_then ?_
            refine run_cond (v := y27.2.2.2.2.2.2.2.2.2) (by kernel_rfl) h ?_ ?_
            ·
              intro h
              refine run_exit ?_
              refine cn_blk_ne (by rfl) ?_
              refine cn_then_exit ?_
              refine cn_blk_eq ?_
              refine cn_num (s := ⟨[(2, .int .u64 y27.1), (8, .int .u64 y27.2.1), (9, .int .u64 y27.2.2.1), (10, .int .u64 y27.2.2.2.1), (14, .int .u64 y27.2.2.2.2.1), (15, .int .u64 y27.2.2.2.2.2.1), (16, .int .u64 y27.2.2.2.2.2.2.1), (17, .int .u64 y27.2.2.2.2.2.2.2.1), (18, .int .u64 y27.2.2.2.2.2.2.2.2.1)], []⟩) [120] (by kernel_rfl) ?_
              exact hj5 _ h
            ·
              intro h
              refine run_skip ?_
              refine cn_blk ?_
              refine cn_num (s := ⟨[(2, .int .u64 y27.1), (8, .int .u64 y27.2.1), (9, .int .u64 y27.2.2.1), (10, .int .u64 y27.2.2.2.1), (14, .int .u64 y27.2.2.2.2.1), (15, .int .u64 y27.2.2.2.2.2.1), (16, .int .u64 y27.2.2.2.2.2.2.1), (17, .int .u64 y27.2.2.2.2.2.2.2.1), (18, .int .u64 y27.2.2.2.2.2.2.2.2.1)], []⟩) [120] (by kernel_rfl) ?_
              exact hn6 _ h
          ·
            intro h
            refine run_exit ?_
            refine cn_then_exit ?_
            refine cn_then_exit ?_
            refine cn_blk_eq ?_
            refine cn_num (s := ⟨[(2, .int .u64 y24.1), (8, .int .u64 y24.2.1), (9, .int .u64 y24.2.2.1), (10, .int .u64 y24.2.2.2.1), (14, .int .u64 y24.2.2.2.2.1), (15, .int .u64 y24.2.2.2.2.2.1), (16, .int .u64 y24.2.2.2.2.2.2.1), (17, .int .u64 y24.2.2.2.2.2.2.2.1), (18, .int .u64 y24.2.2.2.2.2.2.2.2.1)], []⟩) [113] (by kernel_rfl) ?_
            exact hj5 _ h
        intro hj3
        refine run_block ?_
        refine run_loop (G := iter (math_bits_Div64_L4 d )) (S := (fun x4 => ⟨[(2, .int .u64 x4.1), (8, .int .u64 x4.2.1), (9, .int .u64 x4.2.2.1), (10, .int .u64 x4.2.2.2.1), (11, .int .u64 x4.2.2.2.2.1), (13, .int .u64 x4.2.2.2.2.2.1), (14, .int .u64 x4.2.2.2.2.2.2.1), (15, .int .u64 x4.2.2.2.2.2.2.2.1), (16, .int .u64 x4.2.2.2.2.2.2.2.2)], []⟩ : Int × Int × Int × Int × Int × Int × Int × Int × Int → St)) (fun _ => rfl) ?_ d _ h
        intro n4 x4 h K4 hn4
        replace h : math_bits_Div64_L4 d  (iter (math_bits_Div64_L4 d ) n4) x4 = some r := h
        generalize iter (math_bits_Div64_L4 d ) n4 = self4 at h hn4
        unfold math_bits_Div64_L4 at h
        refine run_seq ?_
        refine run_seq ?_
        refine run_reg hm hT hC (math_bits_Div64_g17 (math_bits_Div64_K d) x4) h ?_
        intro y17 h
        refine cn_then ?_
        refine run_cond (v := y17.2.2.2.2.2.2.2.2.2) (by kernel_rfl) h ?_ ?_
        ·
          intro h
          refine run_skip ?_
          refine cn_then ?_
          refine run_block ?_
          refine run_seq ?_
          refine run_reg hm hT hC (math_bits_Div64_g18 (math_bits_Div64_K d) y17) h ?_
          intro y18 h
          refine cn_then ?_
          refine run_seq ?_
          refine run_reg hm hT hC (math_bits_Div64_g19 (math_bits_Div64_K d) y18) h ?_
          intro y19 h
          refine cn_then ?_
          refine run_seq ?_
          refine run_reg hm hT hC (math_bits_Div64_g20 (math_bits_Div64_K d) y19) h ?_
          intro y20 h
          refine cn_then ?_
          refine run_cond (v := y20.2.2.2.2.2.2.2.2.2) (by kernel_rfl) h ?_ ?_
          ·
            intro h
            refine run_exit ?_
            refine cn_blk_ne (by rfl) ?_
            refine cn_then_exit ?_
            refine cn_blk_eq ?_
            refine cn_num (s := ⟨[(2, .int .u64 y20.1), (8, .int .u64 y20.2.1), (9, .int .u64 y20.2.2.1), (10, .int .u64 y20.2.2.2.1), (11, .int .u64 y20.2.2.2.2.1), (13, .int .u64 y20.2.2.2.2.2.1), (14, .int .u64 y20.2.2.2.2.2.2.1), (15, .int .u64 y20.2.2.2.2.2.2.2.1), (16, .int .u64 y20.2.2.2.2.2.2.2.2.1)], []⟩) [85] (by kernel_rfl) ?_
            exact hj3 _ h
          ·
            intro h
            refine run_skip ?_
            refine cn_blk ?_
            refine cn_num (s := ⟨[(2, .int .u64 y20.1), (8, .int .u64 y20.2.1), (9, .int .u64 y20.2.2.1), (10, .int .u64 y20.2.2.2.1), (11, .int .u64 y20.2.2.2.2.1), (13, .int .u64 y20.2.2.2.2.2.1), (14, .int .u64 y20.2.2.2.2.2.2.1), (15, .int .u64 y20.2.2.2.2.2.2.2.1), (16, .int .u64 y20.2.2.2.2.2.2.2.2.1)], []⟩) [85] (by kernel_rfl) ?_
            exact hn4 _ h
        ·
          intro h
          refine run_exit ?_
          refine cn_then_exit ?_
          refine cn_then_exit ?_
          refine cn_blk_eq ?_
          refine cn_num (s := ⟨[(2, .int .u64 y17.1), (8, .int .u64 y17.2.1), (9, .int .u64 y17.2.2.1), (10, .int .u64 y17.2.2.2.1), (11, .int .u64 y17.2.2.2.2.1), (13, .int .u64 y17.2.2.2.2.2.1), (14, .int .u64 y17.2.2.2.2.2.2.1), (15, .int .u64 y17.2.2.2.2.2.2.2.1), (16, .int .u64 y17.2.2.2.2.2.2.2.2.1)], []⟩) [78] (by kernel_rfl) ?_
          exact hj3 _ h
    intro hj2
    refine run_seq ?_
    refine run_reg hm hT hC (math_bits_Div64_g3 (math_bits_Div64_K d) z) h ?_
    intro y3 h
    refine cn_then ?_
    refine run_cond (v := y3.2.2.2) (by kernel_rfl) h ?_ ?_
    ·
      intro h
      cases h
    ·
      intro h
      refine run_skip ?_
      exact hj2 _ h
  intro hj1
  refine run_seq ?_
  refine run_reg hm hT hC (math_bits_Div64_g1 (math_bits_Div64_K d) y0) h ?_
  intro y1 h
  refine cn_then ?_
  refine run_cond (v := y1.2.2.2) (by kernel_rfl) h ?_ ?_
  ·
    intro h
    cases h
  ·
    intro h
    refine run_skip ?_
    exact hj1 _ h
abbrev ratio_wide_over_ps : List Pk := [.row Rbuu true, .row Ru false]
abbrev ratio_wide_over_X : Type := Dbuu × Du × Unit
abbrev ratio_wide_over_R : Type := Bool × Int × Int × Int
def ratio_wide_over_enc (r : ratio_wide_over_R) : LV × List Ob := (.tup [.agg [.bool r.1, .int .u64 r.2.1, .int .u64 r.2.2.1], .int .u64 r.2.2.2], [])
def ratio_wide_over_sp (F : ratio_wide_over_X → Option ratio_wide_over_R) : Go.Tx.Spec := ⟨89, ratio_wide_over_ps, ratio_wide_over_R, F, ratio_wide_over_enc⟩
abbrev ratio_wide_over_C : Type := (math_bits_Div64_X → Option math_bits_Div64_R) × Unit
def ratio_wide_over_K (d : Nat) : ratio_wide_over_C := (F_math_bits_Div64 d, ())
def ratio_wide_over_tab (C : ratio_wide_over_C) : List Go.Tx.Spec := [math_bits_Div64_sp C.1]
abbrev ratio_wide_over_Y0i : Type := Bool × Int × Int × Int
def ratio_wide_over_S0i (v : ratio_wide_over_Y0i) : St := ⟨[(0, .agg [.bool v.1, .int .u64 v.2.1, .int .u64 v.2.2.1]), (1, .int .u64 v.2.2.2)], []⟩
abbrev ratio_wide_over_Y0 : Type := Int × Bool × Int × Int × Bool × Int × Int
def ratio_wide_over_S0 (v : ratio_wide_over_Y0) : St := ⟨[(1, .int .u64 v.1), (2, .ptr 0 0), (4, .ptr 1 0)], [.cells [.bool v.2.1, .int .u64 v.2.2.1, .int .u64 v.2.2.2.1], .cells [.bool v.2.2.2.2.1, .int .u64 v.2.2.2.2.2.1, .int .u64 v.2.2.2.2.2.2]]⟩
def ratio_wide_over_r0 (C : ratio_wide_over_C) (v : ratio_wide_over_Y0i) : Dt ratio_wide_over_Y0 := (Dt.ret (v.2.2.2, v.1, v.2.1, v.2.2.1, false, (0:Int), (0:Int)))
theorem ratio_wide_over_g0 (C : ratio_wide_over_C) (v : ratio_wide_over_Y0i) : treg tysT (orc (ratio_wide_over_tab C)) 31 (regO (bodyOf f89) 0) false [(1, .any), (2, .any), (4, .any)] (ratio_wide_over_S0i v) some = (ratio_wide_over_r0 C v).eval fun y => some (ratio_wide_over_S0 y) := by kernel_rfl
abbrev ratio_wide_over_Y1 : Type := Int × Int × Int × Bool × Int × Int × Bool × Int × Int
def ratio_wide_over_S1 (v : ratio_wide_over_Y1) : St := ⟨[(1, .int .u64 v.1), (2, .ptr 0 0), (4, .ptr 1 0), (6, .int .u64 v.2.1), (7, .int .u64 v.2.2.1)], [.cells [.bool v.2.2.2.1, .int .u64 v.2.2.2.2.1, .int .u64 v.2.2.2.2.2.1], .cells [.bool v.2.2.2.2.2.2.1, .int .u64 v.2.2.2.2.2.2.2.1, .int .u64 v.2.2.2.2.2.2.2.2]]⟩
def ratio_wide_over_r1 (C : ratio_wide_over_C) (v : ratio_wide_over_Y0) : Dt ratio_wide_over_Y1 := (Dt.ite (v.1 == (0:Int)) Dt.fail (Dt.ite (v.1 == (0:Int)) Dt.fail (Dt.ret (v.1, (IntKind.wrap .u64 (Int.tdiv v.2.2.1 v.1)), (Int.tmod v.2.2.1 v.1), v.2.1, v.2.2.1, v.2.2.2.1, v.2.2.2.2.1, v.2.2.2.2.2.1, v.2.2.2.2.2.2))))
theorem ratio_wide_over_g1 (C : ratio_wide_over_C) (v : ratio_wide_over_Y0) : treg tysT (orc (ratio_wide_over_tab C)) 31 (regO (bodyOf f89) 1) true [(1, .any), (2, .any), (4, .any), (6, .any), (7, .any)] (ratio_wide_over_S0 v) some = (ratio_wide_over_r1 C v).eval fun y => some (ratio_wide_over_S1 y) := by kernel_rfl
abbrev ratio_wide_over_Y2 : Type := Int × Int × Int × Bool × Int × Int × Bool × Int × Int
def ratio_wide_over_S2 (v : ratio_wide_over_Y2) : St := ⟨[(2, .ptr 0 0), (4, .ptr 1 0), (6, .int .u64 v.1), (7, .int .u64 v.2.1), (8, .int .u64 v.2.2.1)], [.cells [.bool v.2.2.2.1, .int .u64 v.2.2.2.2.1, .int .u64 v.2.2.2.2.2.1], .cells [.bool v.2.2.2.2.2.2.1, .int .u64 v.2.2.2.2.2.2.2.1, .int .u64 v.2.2.2.2.2.2.2.2]]⟩
def ratio_wide_over_r2 (C : ratio_wide_over_C) (v : ratio_wide_over_Y1) : Dt ratio_wide_over_Y2 := (Dt.bnd (C.1 ((v.2.2.1, ()), (v.2.2.2.2.2.1, ()), (v.1, ()), ())) fun r1 => (Dt.ret (v.2.1, r1.2, r1.1, v.2.2.2.1, v.2.2.2.2.1, v.2.2.2.2.2.1, v.2.2.2.2.2.2.1, v.2.2.2.2.2.2.2.1, v.2.2.2.2.2.2.2.2)))
theorem ratio_wide_over_g2 (C : ratio_wide_over_C) (v : ratio_wide_over_Y1) : treg tysT (orc (ratio_wide_over_tab C)) 31 (regO (bodyOf f89) 2) false [(2, .any), (4, .any), (6, .any), (7, .any), (8, .any)] (ratio_wide_over_S1 v) some = (ratio_wide_over_r2 C v).eval fun y => some (ratio_wide_over_S2 y) := by kernel_rfl
abbrev ratio_wide_over_Y3 : Type := Int × Bool × Int × Int
def ratio_wide_over_S3 (v : ratio_wide_over_Y3) : St := ⟨[(4, .ptr 0 0), (5, .int .u64 v.1)], [.cells [.bool v.2.1, .int .u64 v.2.2.1, .int .u64 v.2.2.2]]⟩
def ratio_wide_over_r3 (C : ratio_wide_over_C) (v : ratio_wide_over_Y2) : Dt ratio_wide_over_Y3 := (Dt.ret (v.2.1, v.2.2.2.1, v.1, v.2.2.1))
theorem ratio_wide_over_g3 (C : ratio_wide_over_C) (v : ratio_wide_over_Y2) : treg tysT (orc (ratio_wide_over_tab C)) 31 (regO (bodyOf f89) 3) false [(4, .any), (5, .any)] (ratio_wide_over_S2 v) some = (ratio_wide_over_r3 C v).eval fun y => some (ratio_wide_over_S3 y) := by kernel_rfl
def F_ratio_wide_over (d : Nat) (x : ratio_wide_over_X) : Option ratio_wide_over_R :=
  (ratio_wide_over_r0 (ratio_wide_over_K d) (x.1.1, x.1.2.1, x.1.2.2.1, x.2.1.1)).eval fun y0 =>
  (ratio_wide_over_r1 (ratio_wide_over_K d) y0).eval fun y1 =>
  (ratio_wide_over_r2 (ratio_wide_over_K d) y1).eval fun y2 =>
  (ratio_wide_over_r3 (ratio_wide_over_K d) y2).eval fun y3 =>
  some (y3.2.1, y3.2.2.1, y3.2.2.2, y3.1)
theorem ratio_wide_over_cok (d : Nat) : COK prog (ratio_wide_over_sp (F_ratio_wide_over d)) := by
  have hm : prog.follows .mixedOrders = true := mixed
  have hT := tys
  have hC0 : OrcOK prog (orc (ratio_wide_over_tab (ratio_wide_over_K d))) := orc_ok (by
    intro S hS
    simp only [ratio_wide_over_tab, List.mem_cons, List.not_mem_nil, or_false] at hS
    subst hS; exact math_bits_Div64_cok d)
  have hC : OrcOK prog (orc (ratio_wide_over_tab (ratio_wide_over_K d))) := hC0
  refine cok_of (c := bodyOf f89) (fn := f89) hT (by kernel_rfl) (by kernel_rfl) (by decide) fun x r h w0 φ0 Q hend => ?_
  replace h : F_ratio_wide_over d x = some r := h
  unfold F_ratio_wide_over at h
  show Run prog w0 φ0 31 (bodyOf f89) ⟨[(0, .agg [.bool x.1.1, .int .u64 x.1.2.1, .int .u64 x.1.2.2.1]), (1, .int .u64 x.2.1.1)], []⟩ Q
  refine run_seq ?_
  refine run_reg hm hT hC (ratio_wide_over_g0 (ratio_wide_over_K d) (x.1.1, x.1.2.1, x.1.2.2.1, x.2.1.1)) h ?_
  intro y0 h
  refine cn_then ?_
  refine run_seq ?_
  refine run_reg hm hT hC (ratio_wide_over_g1 (ratio_wide_over_K d) y0) h ?_
  intro y1 h
  refine cn_then ?_
  refine run_seq ?_
  refine run_reg hm hT hC (ratio_wide_over_g2 (ratio_wide_over_K d) y1) h ?_
  intro y2 h
  refine cn_then ?_
  refine run_seq ?_
  refine run_reg hm hT hC (ratio_wide_over_g3 (ratio_wide_over_K d) y2) h ?_
  intro y3 h
  refine cn_then ?_
  refine run_ret ?_
  cases h
  exact (hend _ (by kernel_rfl)).2
abbrev ratio_build_ps : List Pk := [.row Rbuu true, .row Ru false, .row Ru false]
abbrev ratio_build_X : Type := Dbuu × Du × Du × Unit
abbrev ratio_build_R : Type := Int × Int × Int
def ratio_build_enc (r : ratio_build_R) : LV × List Ob := (.tup [.agg [.int .i64 r.1, .int .i64 r.2.1], .int .i64 r.2.2], [])
def ratio_build_sp (F : ratio_build_X → Option ratio_build_R) : Go.Tx.Spec := ⟨91, ratio_build_ps, ratio_build_R, F, ratio_build_enc⟩
abbrev ratio_build_C : Type := Unit
def ratio_build_K (_d : Nat) : ratio_build_C := ()
def ratio_build_tab (C : ratio_build_C) : List Go.Tx.Spec := []
abbrev ratio_build_Y0i : Type := Bool × Int × Int × Int × Int
def ratio_build_S0i (v : ratio_build_Y0i) : St := ⟨[(0, .agg [.bool v.1, .int .u64 v.2.1, .int .u64 v.2.2.1]), (1, .int .u64 v.2.2.2.1), (2, .int .u64 v.2.2.2.2)], []⟩
abbrev ratio_build_Y0 : Type := Int × Int × Bool × Int × Int × Int × Int
def ratio_build_S0 (v : ratio_build_Y0) : St := ⟨[(1, .int .u64 v.1), (2, .int .u64 v.2.1), (3, .ptr 0 0), (6, .ptr 1 0)], [.cells [.bool v.2.2.1, .int .u64 v.2.2.2.1, .int .u64 v.2.2.2.2.1], .cells [.int .i64 v.2.2.2.2.2.1, .int .i64 v.2.2.2.2.2.2]]⟩
def ratio_build_r0 (C : ratio_build_C) (v : ratio_build_Y0i) : Dt ratio_build_Y0 := (Dt.ret (v.2.2.2.1, v.2.2.2.2, v.1, v.2.1, v.2.2.1, (0:Int), (0:Int)))
theorem ratio_build_g0 (C : ratio_build_C) (v : ratio_build_Y0i) : treg tysT (orc (ratio_build_tab C)) 39 (regO (bodyOf f91) 0) false [(1, .any), (2, .any), (3, .any), (6, .any)] (ratio_build_S0i v) some = (ratio_build_r0 C v).eval fun y => some (ratio_build_S0 y) := by kernel_rfl
abbrev ratio_build_Y1 : Type := Int × Bool × Bool × Int × Int × Int × Int
def ratio_build_S1 (v : ratio_build_Y1) : St := ⟨[(2, .int .u64 v.1), (3, .ptr 0 0), (6, .ptr 1 0), (24, .bool v.2.1)], [.cells [.bool v.2.2.1, .int .u64 v.2.2.2.1, .int .u64 v.2.2.2.2.1], .cells [.int .i64 v.2.2.2.2.2.1, .int .i64 v.2.2.2.2.2.2]]⟩
def ratio_build_r1 (C : ratio_build_C) (v : ratio_build_Y0) : Dt ratio_build_Y1 := (Dt.ite (decide (v.2.2.2.1 > (0:Int))) (Dt.ret (v.2.1, true, v.2.2.1, v.2.2.2.1, v.2.2.2.2.1, v.2.2.2.2.2.1, v.2.2.2.2.2.2)) (Dt.ite (decide (v.2.2.2.2.1 > (9223372036854775807:Int))) (Dt.ret (v.2.1, true, v.2.2.1, v.2.2.2.1, v.2.2.2.2.1, v.2.2.2.2.2.1, v.2.2.2.2.2.2)) (Dt.ite (decide (v.1 > (0:Int))) (Dt.ret (v.2.1, true, v.2.2.1, v.2.2.2.1, v.2.2.2.2.1, v.2.2.2.2.2.1, v.2.2.2.2.2.2)) (Dt.ret (v.2.1, (decide (v.2.1 > (9223372036854775807:Int))), v.2.2.1, v.2.2.2.1, v.2.2.2.2.1, v.2.2.2.2.2.1, v.2.2.2.2.2.2)))))
theorem ratio_build_g1 (C : ratio_build_C) (v : ratio_build_Y0) : treg tysT (orc (ratio_build_tab C)) 39 (regO (bodyOf f91) 1) false [(2, .any), (3, .any), (6, .any), (24, .any)] (ratio_build_S0 v) some = (ratio_build_r1 C v).eval fun y => some (ratio_build_S1 y) := by kernel_rfl
abbrev ratio_build_Y2 : Type := Int × Int × Int
def ratio_build_S2 (v : ratio_build_Y2) : St := ⟨[(6, .ptr 0 0), (7, .int .i64 v.1)], [.cells [.int .i64 v.2.1, .int .i64 v.2.2]]⟩
def ratio_build_r2 (C : ratio_build_C) (v : ratio_build_Y1) : Dt ratio_build_Y2 := (Dt.ret ((16:Int), (0:Int), (0:Int)))
theorem ratio_build_g2 (C : ratio_build_C) (v : ratio_build_Y1) : treg tysT (orc (ratio_build_tab C)) 39 (regO (bodyOf f91) 2) false [(6, .any), (7, .any)] (ratio_build_S1 v) some = (ratio_build_r2 C v).eval fun y => some (ratio_build_S2 y) := by kernel_rfl
abbrev ratio_build_Y3 : Type := Bool × Int × Int × Int × Int × Int × Int
def ratio_build_S3 (v : ratio_build_Y3) : St := ⟨[(3, .ptr 0 0), (6, .ptr 1 0), (8, .ptr 2 0)], [.cells [.bool v.1, .int .u64 v.2.1, .int .u64 v.2.2.1], .cells [.int .i64 v.2.2.2.1, .int .i64 v.2.2.2.2.1], .cells [.int .i64 v.2.2.2.2.2.1, .int .i64 v.2.2.2.2.2.2]]⟩
def ratio_build_r3 (C : ratio_build_C) (v : ratio_build_Y1) : Dt ratio_build_Y3 := (Dt.ret (v.2.2.1, v.2.2.2.1, v.2.2.2.2.1, v.2.2.2.2.2.1, v.2.2.2.2.2.2, (IntKind.wrap .i64 v.2.2.2.2.1), (IntKind.wrap .i64 v.1)))
theorem ratio_build_g3 (C : ratio_build_C) (v : ratio_build_Y1) : treg tysT (orc (ratio_build_tab C)) 39 (regO (bodyOf f91) 3) false [(3, .any), (6, .any), (8, .any)] (ratio_build_S1 v) some = (ratio_build_r3 C v).eval fun y => some (ratio_build_S3 y) := by kernel_rfl
abbrev ratio_build_Y4 : Type := Bool × Int × Int × Int × Int
def ratio_build_S4 (v : ratio_build_Y4) : St := ⟨[(6, .ptr 0 0), (8, .ptr 1 0), (33, .bool v.1)], [.cells [.int .i64 v.2.1, .int .i64 v.2.2.1], .cells [.int .i64 v.2.2.2.1, .int .i64 v.2.2.2.2]]⟩
def ratio_build_r4 (C : ratio_build_C) (v : ratio_build_Y3) : Dt ratio_build_Y4 := (Dt.ret (v.1, v.2.2.2.1, v.2.2.2.2.1, v.2.2.2.2.2.1, v.2.2.2.2.2.2))
theorem ratio_build_g4 (C : ratio_build_C) (v : ratio_build_Y3) : treg tysT (orc (ratio_build_tab C)) 39 (regO (bodyOf f91) 4) false [(6, .any), (8, .any), (33, .any)] (ratio_build_S3 v) some = (ratio_build_r4 C v).eval fun y => some (ratio_build_S4 y) := by kernel_rfl
abbrev ratio_build_Y5 : Type := Int × Int × Int × Int
def ratio_build_S5 (v : ratio_build_Y5) : St := ⟨[(6, .ptr 0 0), (8, .ptr 1 0)], [.cells [.int .i64 v.1, .int .i64 v.2.1], .cells [.int .i64 v.2.2.1, .int .i64 v.2.2.2]]⟩
def ratio_build_r5 (C : ratio_build_C) (v : ratio_build_Y4) : Dt ratio_build_Y5 := (Dt.ret (v.2.1, v.2.2.1, (IntKind.wrap .i64 (0 - v.2.2.2.1)), v.2.2.2.2))
theorem ratio_build_g5 (C : ratio_build_C) (v : ratio_build_Y4) : treg tysT (orc (ratio_build_tab C)) 39 (regO (bodyOf f91) 5) false [(6, .any), (8, .any)] (ratio_build_S4 v) some = (ratio_build_r5 C v).eval fun y => some (ratio_build_S5 y) := by kernel_rfl
def ratio_build_r6 (C : ratio_build_C) (v : ratio_build_Y5) : Dt ratio_build_Y2 := (Dt.ret ((0:Int), v.2.2.1, v.2.2.2))
theorem ratio_build_g6 (C : ratio_build_C) (v : ratio_build_Y5) : treg tysT (orc (ratio_build_tab C)) 39 (regO (bodyOf f91) 6) false [(6, .any), (7, .any)] (ratio_build_S5 v) some = (ratio_build_r6 C v).eval fun y => some (ratio_build_S2 y) := by kernel_rfl
def ratio_build_J1  (d : Nat)  (z : Int × Int × Int × Int) : Option (ratio_build_R) :=
  (ratio_build_r6 (ratio_build_K d) z).eval fun y6 =>
  some (y6.2.1, y6.2.2, y6.1)
def F_ratio_build (d : Nat) (x : ratio_build_X) : Option ratio_build_R :=
  (ratio_build_r0 (ratio_build_K d) (x.1.1, x.1.2.1, x.1.2.2.1, x.2.1.1, x.2.2.1.1)).eval fun y0 =>
  (ratio_build_r1 (ratio_build_K d) y0).eval fun y1 =>
  bif y1.2.1 then ((ratio_build_r2 (ratio_build_K d) y1).eval fun y2 =>
  some (y2.2.1, y2.2.2, y2.1)) else ((ratio_build_r3 (ratio_build_K d) y1).eval fun y3 =>
  (ratio_build_r4 (ratio_build_K d) y3).eval fun y4 =>
  bif y4.1 then ((ratio_build_r5 (ratio_build_K d) y4).eval fun y5 =>
  ratio_build_J1 d  y5) else (ratio_build_J1 d  y4.2))
theorem ratio_build_cok (d : Nat) : COK prog (ratio_build_sp (F_ratio_build d)) := by
  have hm : prog.follows .mixedOrders = true := mixed
  have hT := tys
  have hC0 : OrcOK prog (orc (ratio_build_tab (ratio_build_K d))) := orc_ok (by
    intro S hS
    simp only [ratio_build_tab, List.mem_cons, List.not_mem_nil, or_false] at hS
    all_goals first | cases hS | exact hS.elim)
  have hC : OrcOK prog (orc (ratio_build_tab (ratio_build_K d))) := hC0
  refine cok_of (c := bodyOf f91) (fn := f91) hT (by kernel_rfl) (by kernel_rfl) (by decide) fun x r h w0 φ0 Q hend => ?_
  replace h : F_ratio_build d x = some r := h
  unfold F_ratio_build at h
  show Run prog w0 φ0 39 (bodyOf f91) ⟨[(0, .agg [.bool x.1.1, .int .u64 x.1.2.1, .int .u64 x.1.2.2.1]), (1, .int .u64 x.2.1.1), (2, .int .u64 x.2.2.1.1)], []⟩ Q
  refine run_seq ?_
  refine run_reg hm hT hC (ratio_build_g0 (ratio_build_K d) (x.1.1, x.1.2.1, x.1.2.2.1, x.2.1.1, x.2.2.1.1)) h ?_
  intro y0 h
  refine cn_then ?_
  refine run_seq ?_
  refine run_seq ?_
  refine run_reg hm hT hC (ratio_build_g1 (ratio_build_K d) y0) h ?_
  intro y1 h
  refine cn_then ?_
  refine run_cond (v := y1.2.1) (by kernel_rfl) h ?_ ?_
  ·
    intro h
    refine run_seq ?_
    refine run_reg hm hT hC (ratio_build_g2 (ratio_build_K d) y1) h ?_
    intro y2 h
    refine cn_then ?_
    refine run_ret ?_
    refine cn_then_ret ?_
    cases h
    exact (hend _ (by kernel_rfl)).2
  ·
    intro h
    refine run_skip ?_
    refine cn_then ?_
    refine run_seq ?_
    refine run_reg hm hT hC (ratio_build_g3 (ratio_build_K d) y1) h ?_
    intro y3 h
    refine cn_then ?_
    refine run_join (r := r) (F := ratio_build_J1 d ) (S := (fun z => ⟨[(6, .ptr 0 0), (8, .ptr 1 0)], [.cells [.int .i64 z.1, .int .i64 z.2.1], .cells [.int .i64 z.2.2.1, .int .i64 z.2.2.2]]⟩ : Int × Int × Int × Int → St)) ?_ ?_
    ·
      intro z h
      unfold ratio_build_J1 at h
      refine run_seq ?_
      refine run_reg hm hT hC (ratio_build_g6 (ratio_build_K d) z) h ?_
      intro y6 h
      refine cn_then ?_
      refine run_ret ?_
      cases h
      exact (hend _ (by kernel_rfl)).2
    intro hj1
    refine run_seq ?_
    refine run_reg hm hT hC (ratio_build_g4 (ratio_build_K d) y3) h ?_
    intro y4 h
    refine cn_then ?_
    refine run_cond (v := y4.1) (by kernel_rfl) h ?_ ?_
    ·
      intro h
      refine run_reg hm hT hC (ratio_build_g5 (ratio_build_K d) y4) h ?_
      intro y5 h
      exact hj1 _ h
    ·
      intro h
      refine run_skip ?_
      refine cn_num (s := ⟨[(6, .ptr 0 0), (8, .ptr 1 0)], [.cells [.int .i64 y4.2.1, .int .i64 y4.2.2.1], .cells [.int .i64 y4.2.2.2.1, .int .i64 y4.2.2.2.2]]⟩) [33] (by kernel_rfl) ?_
      exact hj1 _ h
abbrev ratio_Add_ps : List Pk := [.row Rii true, .row Rii true]
abbrev ratio_Add_X : Type := Dii × Dii × Unit
abbrev ratio_Add_R : Type := Int × Int × Int
def ratio_Add_enc (r : ratio_Add_R) : LV × List Ob := (.tup [.agg [.int .i64 r.1, .int .i64 r.2.1], .int .i64 r.2.2], [])
def ratio_Add_sp (F : ratio_Add_X → Option ratio_Add_R) : Go.Tx.Spec := ⟨67, ratio_Add_ps, ratio_Add_R, F, ratio_Add_enc⟩
abbrev ratio_Add_C : Type := (ratio_both_X → Option ratio_both_R) × (ratio_gcd_X → Option ratio_gcd_R) × (ratio_plus_X → Option ratio_plus_R) × (ratio_times_X → Option ratio_times_R) × (ratio_wide_over_X → Option ratio_wide_over_R) × (math_bits_Mul64_X → Option math_bits_Mul64_R) × (ratio_build_X → Option ratio_build_R) × Unit
def ratio_Add_K (d : Nat) : ratio_Add_C := (F_ratio_both d, F_ratio_gcd d, F_ratio_plus d, F_ratio_times d, F_ratio_wide_over d, F_math_bits_Mul64 d, F_ratio_build d, ())
def ratio_Add_tab (C : ratio_Add_C) : List Go.Tx.Spec := [ratio_both_sp C.1, ratio_gcd_sp C.2.1, ratio_plus_sp C.2.2.1, ratio_times_sp C.2.2.2.1, ratio_wide_over_sp C.2.2.2.2.1, math_bits_Mul64_sp C.2.2.2.2.2.1, ratio_build_sp C.2.2.2.2.2.2.1]
abbrev ratio_Add_Y0i : Type := Int × Int × Int × Int
def ratio_Add_S0i (v : ratio_Add_Y0i) : St := ⟨[(0, .agg [.int .i64 v.1, .int .i64 v.2.1]), (1, .agg [.int .i64 v.2.2.1, .int .i64 v.2.2.2])], []⟩
abbrev ratio_Add_Y0 : Type := Int × Int × Int × Int × Int × Int
def ratio_Add_S0 (v : ratio_Add_Y0) : St := ⟨[(2, .ptr 0 0), (3, .ptr 1 0), (4, .ptr 2 0)], [.cells [.int .i64 v.1, .int .i64 v.2.1], .cells [.int .i64 v.2.2.1, .int .i64 v.2.2.2.1], .cells [.int .i64 v.2.2.2.2.1, .int .i64 v.2.2.2.2.2]]⟩
def ratio_Add_r0 (C : ratio_Add_C) (v : ratio_Add_Y0i) : Dt ratio_Add_Y0 := (Dt.ret (v.1, v.2.1, v.2.2.1, v.2.2.2, (0:Int), (0:Int)))
theorem ratio_Add_g0 (C : ratio_Add_C) (v : ratio_Add_Y0i) : treg tysT (orc (ratio_Add_tab C)) 81 (regO (bodyOf f67) 0) false [(2, .any), (3, .any), (4, .any)] (ratio_Add_S0i v) some = (ratio_Add_r0 C v).eval fun y => some (ratio_Add_S0 y) := by kernel_rfl
abbrev ratio_Add_Y1 : Type := Int × Int × Int × Int × Int × Int × Int
def ratio_Add_S1 (v : ratio_Add_Y1) : St := ⟨[(2, .ptr 0 0), (3, .ptr 1 0), (4, .ptr 2 0), (6, .int .i64 v.1)], [.cells [.int .i64 v.2.1, .int .i64 v.2.2.1], .cells [.int .i64 v.2.2.2.1, .int .i64 v.2.2.2.2.1], .cells [.int .i64 v.2.2.2.2.2.1, .int .i64 v.2.2.2.2.2.2]]⟩
def ratio_Add_r1 (C : ratio_Add_C) (v : ratio_Add_Y0) : Dt ratio_Add_Y1 := (Dt.bnd (C.1 ((v.1, v.2.1, ()), (v.2.2.1, v.2.2.2.1, ()), ())) fun r1 => (Dt.ret (r1, v.1, v.2.1, v.2.2.1, v.2.2.2.1, v.2.2.2.2.1, v.2.2.2.2.2)))
theorem ratio_Add_g1 (C : ratio_Add_C) (v : ratio_Add_Y0) : treg tysT (orc (ratio_Add_tab C)) 81 (regO (bodyOf f67) 1) false [(2, .any), (3, .any), (4, .any), (6, .any)] (ratio_Add_S0 v) some = (ratio_Add_r1 C v).eval fun y => some (ratio_Add_S1 y) := by kernel_rfl
abbrev ratio_Add_Y2 : Type := Int × Bool × Int × Int × Int × Int × Int × Int
def ratio_Add_S2 (v : ratio_Add_Y2) : St := ⟨[(2, .ptr 0 0), (3, .ptr 1 0), (4, .ptr 2 0), (6, .int .i64 v.1), (18, .bool v.2.1)], [.cells [.int .i64 v.2.2.1, .int .i64 v.2.2.2.1], .cells [.int .i64 v.2.2.2.2.1, .int .i64 v.2.2.2.2.2.1], .cells [.int .i64 v.2.2.2.2.2.2.1, .int .i64 v.2.2.2.2.2.2.2]]⟩
def ratio_Add_r2 (C : ratio_Add_C) (v : ratio_Add_Y1) : Dt ratio_Add_Y2 := (Dt.ret (v.1, (v.1 != (0:Int)), v.2.1, v.2.2.1, v.2.2.2.1, v.2.2.2.2.1, v.2.2.2.2.2.1, v.2.2.2.2.2.2))
theorem ratio_Add_g2 (C : ratio_Add_C) (v : ratio_Add_Y1) : treg tysT (orc (ratio_Add_tab C)) 81 (regO (bodyOf f67) 2) false [(2, .any), (3, .any), (4, .any), (6, .any), (18, .any)] (ratio_Add_S1 v) some = (ratio_Add_r2 C v).eval fun y => some (ratio_Add_S2 y) := by kernel_rfl
abbrev ratio_Add_Y3 : Type := Int × Int × Int
def ratio_Add_S3 (v : ratio_Add_Y3) : St := ⟨[(4, .ptr 0 0), (5, .int .i64 v.1)], [.cells [.int .i64 v.2.1, .int .i64 v.2.2]]⟩
def ratio_Add_r3 (C : ratio_Add_C) (v : ratio_Add_Y2) : Dt ratio_Add_Y3 := (Dt.ret (v.1, (0:Int), (0:Int)))
theorem ratio_Add_g3 (C : ratio_Add_C) (v : ratio_Add_Y2) : treg tysT (orc (ratio_Add_tab C)) 81 (regO (bodyOf f67) 3) false [(4, .any), (5, .any)] (ratio_Add_S2 v) some = (ratio_Add_r3 C v).eval fun y => some (ratio_Add_S3 y) := by kernel_rfl
abbrev ratio_Add_Y4 : Type := Int × Int × Int × Int × Int × Int × Int
def ratio_Add_S4 (v : ratio_Add_Y4) : St := ⟨[(2, .ptr 0 0), (3, .ptr 1 0), (4, .ptr 2 0), (7, .int .i64 v.1)], [.cells [.int .i64 v.2.1, .int .i64 v.2.2.1], .cells [.int .i64 v.2.2.2.1, .int .i64 v.2.2.2.2.1], .cells [.int .i64 v.2.2.2.2.2.1, .int .i64 v.2.2.2.2.2.2]]⟩
def ratio_Add_r4 (C : ratio_Add_C) (v : ratio_Add_Y2) : Dt ratio_Add_Y4 := (Dt.bnd (C.2.1 (((IntKind.wrap .u64 v.2.2.2.1), ()), ((IntKind.wrap .u64 v.2.2.2.2.2.1), ()), ())) fun r1 => (Dt.ret ((IntKind.wrap .i64 r1), v.2.2.1, v.2.2.2.1, v.2.2.2.2.1, v.2.2.2.2.2.1, v.2.2.2.2.2.2.1, v.2.2.2.2.2.2.2)))
theorem ratio_Add_g4 (C : ratio_Add_C) (v : ratio_Add_Y2) : treg tysT (orc (ratio_Add_tab C)) 81 (regO (bodyOf f67) 4) false [(2, .any), (3, .any), (4, .any), (7, .any)] (ratio_Add_S2 v) some = (ratio_Add_r4 C v).eval fun y => some (ratio_Add_S4 y) := by kernel_rfl
abbrev ratio_Add_Y5 : Type := Int × Int × Int × Int × Int × Int × Int × Bool × Int × Int
def ratio_Add_S5 (v : ratio_Add_Y5) : St := ⟨[(2, .ptr 0 0), (3, .ptr 1 0), (4, .ptr 2 0), (7, .int .i64 v.1), (8, .ptr 3 0)], [.cells [.int .i64 v.2.1, .int .i64 v.2.2.1], .cells [.int .i64 v.2.2.2.1, .int .i64 v.2.2.2.2.1], .cells [.int .i64 v.2.2.2.2.2.1, .int .i64 v.2.2.2.2.2.2.1], .cells [.bool v.2.2.2.2.2.2.2.1, .int .u64 v.2.2.2.2.2.2.2.2.1, .int .u64 v.2.2.2.2.2.2.2.2.2]]⟩
def ratio_Add_r5 (C : ratio_Add_C) (v : ratio_Add_Y4) : Dt ratio_Add_Y5 := (Dt.ite (v.1 == (0:Int)) Dt.fail (Dt.bnd (C.2.2.2.1 ((v.2.1, ()), ((IntKind.wrap .i64 (Int.tdiv v.2.2.2.2.1 v.1)), ()), ())) fun r1 => (Dt.ite (v.1 == (0:Int)) Dt.fail (Dt.bnd (C.2.2.2.1 ((v.2.2.2.1, ()), ((IntKind.wrap .i64 (Int.tdiv v.2.2.1 v.1)), ()), ())) fun r2 => (Dt.bnd (C.2.2.1 ((r1.1, r1.2.1, r1.2.2, ()), (r2.1, r2.2.1, r2.2.2, ()), ())) fun r3 => (Dt.ret (v.1, v.2.1, v.2.2.1, v.2.2.2.1, v.2.2.2.2.1, v.2.2.2.2.2.1, v.2.2.2.2.2.2, r3.1, r3.2.1, r3.2.2)))))))
theorem ratio_Add_g5 (C : ratio_Add_C) (v : ratio_Add_Y4) : treg tysT (orc (ratio_Add_tab C)) 81 (regO (bodyOf f67) 5) true [(2, .any), (3, .any), (4, .any), (7, .any), (8, .any)] (ratio_Add_S4 v) some = (ratio_Add_r5 C v).eval fun y => some (ratio_Add_S5 y) := by kernel_rfl
abbrev ratio_Add_Y6 : Type := Int × Int × Int × Int × Int × Int × Int × Int × Bool × Int × Int
def ratio_Add_S6 (v : ratio_Add_Y6) : St := ⟨[(2, .ptr 0 0), (3, .ptr 1 0), (4, .ptr 2 0), (7, .int .i64 v.1), (8, .ptr 3 0), (10, .int .u64 v.2.1)], [.cells [.int .i64 v.2.2.1, .int .i64 v.2.2.2.1], .cells [.int .i64 v.2.2.2.2.1, .int .i64 v.2.2.2.2.2.1], .cells [.int .i64 v.2.2.2.2.2.2.1, .int .i64 v.2.2.2.2.2.2.2.1], .cells [.bool v.2.2.2.2.2.2.2.2.1, .int .u64 v.2.2.2.2.2.2.2.2.2.1, .int .u64 v.2.2.2.2.2.2.2.2.2.2]]⟩
def ratio_Add_r6 (C : ratio_Add_C) (v : ratio_Add_Y5) : Dt ratio_Add_Y6 := (Dt.bnd (C.2.2.2.2.1 ((v.2.2.2.2.2.2.2.1, v.2.2.2.2.2.2.2.2.1, v.2.2.2.2.2.2.2.2.2, ()), ((IntKind.wrap .u64 v.1), ()), ())) fun r1 => (Dt.ret (v.1, r1.2.2.2, v.2.1, v.2.2.1, v.2.2.2.1, v.2.2.2.2.1, v.2.2.2.2.2.1, v.2.2.2.2.2.2.1, v.2.2.2.2.2.2.2.1, v.2.2.2.2.2.2.2.2.1, v.2.2.2.2.2.2.2.2.2)))
theorem ratio_Add_g6 (C : ratio_Add_C) (v : ratio_Add_Y5) : treg tysT (orc (ratio_Add_tab C)) 81 (regO (bodyOf f67) 6) false [(2, .any), (3, .any), (4, .any), (7, .any), (8, .any), (10, .any)] (ratio_Add_S5 v) some = (ratio_Add_r6 C v).eval fun y => some (ratio_Add_S6 y) := by kernel_rfl
abbrev ratio_Add_Y7 : Type := Int × Int × Int × Int × Int × Int × Int × Int × Bool × Int × Int
def ratio_Add_S7 (v : ratio_Add_Y7) : St := ⟨[(2, .ptr 0 0), (3, .ptr 1 0), (4, .ptr 2 0), (7, .int .i64 v.1), (8, .ptr 3 0), (11, .int .u64 v.2.1)], [.cells [.int .i64 v.2.2.1, .int .i64 v.2.2.2.1], .cells [.int .i64 v.2.2.2.2.1, .int .i64 v.2.2.2.2.2.1], .cells [.int .i64 v.2.2.2.2.2.2.1, .int .i64 v.2.2.2.2.2.2.2.1], .cells [.bool v.2.2.2.2.2.2.2.2.1, .int .u64 v.2.2.2.2.2.2.2.2.2.1, .int .u64 v.2.2.2.2.2.2.2.2.2.2]]⟩
def ratio_Add_r7 (C : ratio_Add_C) (v : ratio_Add_Y6) : Dt ratio_Add_Y7 := (Dt.bnd (C.2.1 (((IntKind.wrap .u64 v.1), ()), (v.2.1, ()), ())) fun r1 => (Dt.ret (v.1, r1, v.2.2.1, v.2.2.2.1, v.2.2.2.2.1, v.2.2.2.2.2.1, v.2.2.2.2.2.2.1, v.2.2.2.2.2.2.2.1, v.2.2.2.2.2.2.2.2.1, v.2.2.2.2.2.2.2.2.2.1, v.2.2.2.2.2.2.2.2.2.2)))
theorem ratio_Add_g7 (C : ratio_Add_C) (v : ratio_Add_Y6) : treg tysT (orc (ratio_Add_tab C)) 81 (regO (bodyOf f67) 7) false [(2, .any), (3, .any), (4, .any), (7, .any), (8, .any), (11, .any)] (ratio_Add_S6 v) some = (ratio_Add_r7 C v).eval fun y => some (ratio_Add_S7 y) := by kernel_rfl
def ratio_Add_r8 (C : ratio_Add_C) (v : ratio_Add_Y7) : Dt ratio_Add_Y7 := (Dt.bnd (C.2.2.2.2.1 ((v.2.2.2.2.2.2.2.2.1, v.2.2.2.2.2.2.2.2.2.1, v.2.2.2.2.2.2.2.2.2.2, ()), (v.2.1, ()), ())) fun r1 => (Dt.ret (v.1, v.2.1, v.2.2.1, v.2.2.2.1, v.2.2.2.2.1, v.2.2.2.2.2.1, v.2.2.2.2.2.2.1, v.2.2.2.2.2.2.2.1, r1.1, r1.2.1, r1.2.2.1)))
theorem ratio_Add_g8 (C : ratio_Add_C) (v : ratio_Add_Y7) : treg tysT (orc (ratio_Add_tab C)) 81 (regO (bodyOf f67) 8) false [(2, .any), (3, .any), (4, .any), (7, .any), (8, .any), (11, .any)] (ratio_Add_S7 v) some = (ratio_Add_r8 C v).eval fun y => some (ratio_Add_S7 y) := by kernel_rfl
abbrev ratio_Add_Y9 : Type := Int × Int × Int × Int × Bool × Int × Int
def ratio_Add_S9 (v : ratio_Add_Y9) : St := ⟨[(4, .ptr 0 0), (8, .ptr 1 0), (12, .int .u64 v.1), (13, .int .u64 v.2.1)], [.cells [.int .i64 v.2.2.1, .int .i64 v.2.2.2.1], .cells [.bool v.2.2.2.2.1, .int .u64 v.2.2.2.2.2.1, .int .u64 v.2.2.2.2.2.2]]⟩
def ratio_Add_r9 (C : ratio_Add_C) (v : ratio_Add_Y7) : Dt ratio_Add_Y9 := (Dt.ite (v.1 == (0:Int)) Dt.fail (Dt.ite (v.2.1 == (0:Int)) Dt.fail (Dt.bnd (C.2.2.2.2.2.1 (((IntKind.wrap .u64 (IntKind.wrap .i64 (Int.tdiv v.2.2.2.1 v.1))), ()), ((IntKind.wrap .u64 (Int.tdiv (IntKind.wrap .u64 v.2.2.2.2.2.1) v.2.1)), ()), ())) fun r1 => (Dt.ret (r1.1, r1.2, v.2.2.2.2.2.2.1, v.2.2.2.2.2.2.2.1, v.2.2.2.2.2.2.2.2.1, v.2.2.2.2.2.2.2.2.2.1, v.2.2.2.2.2.2.2.2.2.2)))))
theorem ratio_Add_g9 (C : ratio_Add_C) (v : ratio_Add_Y7) : treg tysT (orc (ratio_Add_tab C)) 81 (regO (bodyOf f67) 9) true [(4, .any), (8, .any), (12, .any), (13, .any)] (ratio_Add_S7 v) some = (ratio_Add_r9 C v).eval fun y => some (ratio_Add_S9 y) := by kernel_rfl
def ratio_Add_r10 (C : ratio_Add_C) (v : ratio_Add_Y9) : Dt ratio_Add_Y3 := (Dt.bnd (C.2.2.2.2.2.2.1 ((v.2.2.2.2.1, v.2.2.2.2.2.1, v.2.2.2.2.2.2, ()), (v.1, ()), (v.2.1, ()), ())) fun r1 => (Dt.ret (r1.2.2, r1.1, r1.2.1)))
theorem ratio_Add_g10 (C : ratio_Add_C) (v : ratio_Add_Y9) : treg tysT (orc (ratio_Add_tab C)) 81 (regO (bodyOf f67) 10) false [(4, .any), (5, .any)] (ratio_Add_S9 v) some = (ratio_Add_r10 C v).eval fun y => some (ratio_Add_S3 y) := by kernel_rfl
def F_ratio_Add (d : Nat) (x : ratio_Add_X) : Option ratio_Add_R :=
  (ratio_Add_r0 (ratio_Add_K d) (x.1.1, x.1.2.1, x.2.1.1, x.2.1.2.1)).eval fun y0 =>
  (ratio_Add_r1 (ratio_Add_K d) y0).eval fun y1 =>
  (ratio_Add_r2 (ratio_Add_K d) y1).eval fun y2 =>
  bif y2.2.1 then ((ratio_Add_r3 (ratio_Add_K d) y2).eval fun y3 =>
  some (y3.2.1, y3.2.2, y3.1)) else ((ratio_Add_r4 (ratio_Add_K d) y2).eval fun y4 =>
  (ratio_Add_r5 (ratio_Add_K d) y4).eval fun y5 =>
  (ratio_Add_r6 (ratio_Add_K d) y5).eval fun y6 =>
  (ratio_Add_r7 (ratio_Add_K d) y6).eval fun y7 =>
  (ratio_Add_r8 (ratio_Add_K d) y7).eval fun y8 =>
  (ratio_Add_r9 (ratio_Add_K d) y8).eval fun y9 =>
  (ratio_Add_r10 (ratio_Add_K d) y9).eval fun y10 =>
  some (y10.2.1, y10.2.2, y10.1))
theorem ratio_Add_cok (d : Nat) : COK prog (ratio_Add_sp (F_ratio_Add d)) := by
  have hm : prog.follows .mixedOrders = true := mixed
  have hT := tys
  have hC0 : OrcOK prog (orc (ratio_Add_tab (ratio_Add_K d))) := orc_ok (by
    intro S hS
    simp only [ratio_Add_tab, List.mem_cons, List.not_mem_nil, or_false] at hS
    rcases hS with rfl | rfl | rfl | rfl | rfl | rfl | rfl
    · exact ratio_both_cok d
    · exact ratio_gcd_cok d
    · exact ratio_plus_cok d
    · exact ratio_times_cok d
    · exact ratio_wide_over_cok d
    · exact math_bits_Mul64_cok d
    · exact ratio_build_cok d)
  have hC : OrcOK prog (orc (ratio_Add_tab (ratio_Add_K d))) := hC0
  refine cok_of (c := bodyOf f67) (fn := f67) hT (by kernel_rfl) (by kernel_rfl) (by decide) fun x r h w0 φ0 Q hend => ?_
  replace h : F_ratio_Add d x = some r := h
  unfold F_ratio_Add at h
  show Run prog w0 φ0 81 (bodyOf f67) ⟨[(0, .agg [.int .i64 x.1.1, .int .i64 x.1.2.1]), (1, .agg [.int .i64 x.2.1.1, .int .i64 x.2.1.2.1])], []⟩ Q
  refine run_seq ?_
  refine run_reg hm hT hC (ratio_Add_g0 (ratio_Add_K d) (x.1.1, x.1.2.1, x.2.1.1, x.2.1.2.1)) h ?_
  intro y0 h
  refine cn_then ?_
  refine run_seq ?_
  refine run_seq ?_
  refine run_reg hm hT hC (ratio_Add_g1 (ratio_Add_K d) y0) h ?_
  intro y1 h
  refine cn_then ?_
  refine run_seq ?_
  refine run_reg hm hT hC (ratio_Add_g2 (ratio_Add_K d) y1) h ?_
  intro y2 h
  refine cn_then ?_
  refine run_cond (v := y2.2.1) (by kernel_rfl) h ?_ ?_
  ·
    intro h
    refine run_seq ?_
    refine run_reg hm hT hC (ratio_Add_g3 (ratio_Add_K d) y2) h ?_
    intro y3 h
    refine cn_then ?_
    refine run_ret ?_
    refine cn_then_ret ?_
    cases h
    exact (hend _ (by kernel_rfl)).2
  ·
    intro h
    refine run_skip ?_
    refine cn_then ?_
    refine run_seq ?_
    refine run_reg hm hT hC (ratio_Add_g4 (ratio_Add_K d) y2) h ?_
    intro y4 h
    refine cn_then ?_
    refine run_seq ?_
    refine run_reg hm hT hC (ratio_Add_g5 (ratio_Add_K d) y4) h ?_
    intro y5 h
    refine cn_then ?_
    refine run_seq ?_
    refine run_reg hm hT hC (ratio_Add_g6 (ratio_Add_K d) y5) h ?_
    intro y6 h
    refine cn_then ?_
    refine run_seq ?_
    refine run_reg hm hT hC (ratio_Add_g7 (ratio_Add_K d) y6) h ?_
    intro y7 h
    refine cn_then ?_
    refine run_seq ?_
    refine run_reg hm hT hC (ratio_Add_g8 (ratio_Add_K d) y7) h ?_
    intro y8 h
    refine cn_then ?_
    refine run_seq ?_
    refine run_reg hm hT hC (ratio_Add_g9 (ratio_Add_K d) y8) h ?_
    intro y9 h
    refine cn_then ?_
    refine run_seq ?_
    refine run_reg hm hT hC (ratio_Add_g10 (ratio_Add_K d) y9) h ?_
    intro y10 h
    refine cn_then ?_
    refine run_ret ?_
    cases h
    exact (hend _ (by kernel_rfl)).2
abbrev ratio_Sub_ps : List Pk := [.row Rii true, .row Rii true]
abbrev ratio_Sub_X : Type := Dii × Dii × Unit
abbrev ratio_Sub_R : Type := Int × Int × Int
def ratio_Sub_enc (r : ratio_Sub_R) : LV × List Ob := (.tup [.agg [.int .i64 r.1, .int .i64 r.2.1], .int .i64 r.2.2], [])
def ratio_Sub_sp (F : ratio_Sub_X → Option ratio_Sub_R) : Go.Tx.Spec := ⟨40, ratio_Sub_ps, ratio_Sub_R, F, ratio_Sub_enc⟩
abbrev ratio_Sub_C : Type := (ratio_both_X → Option ratio_both_R) × (ratio_Add_X → Option ratio_Add_R) × Unit
def ratio_Sub_K (d : Nat) : ratio_Sub_C := (F_ratio_both d, F_ratio_Add d, ())
def ratio_Sub_tab (C : ratio_Sub_C) : List Go.Tx.Spec := [ratio_both_sp C.1, ratio_Add_sp C.2.1]
abbrev ratio_Sub_Y0i : Type := Int × Int × Int × Int
def ratio_Sub_S0i (v : ratio_Sub_Y0i) : St := ⟨[(0, .agg [.int .i64 v.1, .int .i64 v.2.1]), (1, .agg [.int .i64 v.2.2.1, .int .i64 v.2.2.2])], []⟩
abbrev ratio_Sub_Y0 : Type := Int × Int × Int × Int × Int × Int
def ratio_Sub_S0 (v : ratio_Sub_Y0) : St := ⟨[(2, .ptr 0 0), (3, .ptr 1 0), (4, .ptr 2 0)], [.cells [.int .i64 v.1, .int .i64 v.2.1], .cells [.int .i64 v.2.2.1, .int .i64 v.2.2.2.1], .cells [.int .i64 v.2.2.2.2.1, .int .i64 v.2.2.2.2.2]]⟩
def ratio_Sub_r0 (C : ratio_Sub_C) (v : ratio_Sub_Y0i) : Dt ratio_Sub_Y0 := (Dt.ret (v.1, v.2.1, v.2.2.1, v.2.2.2, (0:Int), (0:Int)))
theorem ratio_Sub_g0 (C : ratio_Sub_C) (v : ratio_Sub_Y0i) : treg tysT (orc (ratio_Sub_tab C)) 23 (regO (bodyOf f40) 0) false [(2, .any), (3, .any), (4, .any)] (ratio_Sub_S0i v) some = (ratio_Sub_r0 C v).eval fun y => some (ratio_Sub_S0 y) := by kernel_rfl
abbrev ratio_Sub_Y1 : Type := Int × Int × Int × Int × Int × Int × Int
def ratio_Sub_S1 (v : ratio_Sub_Y1) : St := ⟨[(2, .ptr 0 0), (3, .ptr 1 0), (4, .ptr 2 0), (6, .int .i64 v.1)], [.cells [.int .i64 v.2.1, .int .i64 v.2.2.1], .cells [.int .i64 v.2.2.2.1, .int .i64 v.2.2.2.2.1], .cells [.int .i64 v.2.2.2.2.2.1, .int .i64 v.2.2.2.2.2.2]]⟩
def ratio_Sub_r1 (C : ratio_Sub_C) (v : ratio_Sub_Y0) : Dt ratio_Sub_Y1 := (Dt.bnd (C.1 ((v.1, v.2.1, ()), (v.2.2.1, v.2.2.2.1, ()), ())) fun r1 => (Dt.ret (r1, v.1, v.2.1, v.2.2.1, v.2.2.2.1, v.2.2.2.2.1, v.2.2.2.2.2)))
theorem ratio_Sub_g1 (C : ratio_Sub_C) (v : ratio_Sub_Y0) : treg tysT (orc (ratio_Sub_tab C)) 23 (regO (bodyOf f40) 1) false [(2, .any), (3, .any), (4, .any), (6, .any)] (ratio_Sub_S0 v) some = (ratio_Sub_r1 C v).eval fun y => some (ratio_Sub_S1 y) := by kernel_rfl
abbrev ratio_Sub_Y2 : Type := Int × Bool × Int × Int × Int × Int × Int × Int
def ratio_Sub_S2 (v : ratio_Sub_Y2) : St := ⟨[(2, .ptr 0 0), (3, .ptr 1 0), (4, .ptr 2 0), (6, .int .i64 v.1), (11, .bool v.2.1)], [.cells [.int .i64 v.2.2.1, .int .i64 v.2.2.2.1], .cells [.int .i64 v.2.2.2.2.1, .int .i64 v.2.2.2.2.2.1], .cells [.int .i64 v.2.2.2.2.2.2.1, .int .i64 v.2.2.2.2.2.2.2]]⟩
def ratio_Sub_r2 (C : ratio_Sub_C) (v : ratio_Sub_Y1) : Dt ratio_Sub_Y2 := (Dt.ret (v.1, (v.1 != (0:Int)), v.2.1, v.2.2.1, v.2.2.2.1, v.2.2.2.2.1, v.2.2.2.2.2.1, v.2.2.2.2.2.2))
theorem ratio_Sub_g2 (C : ratio_Sub_C) (v : ratio_Sub_Y1) : treg tysT (orc (ratio_Sub_tab C)) 23 (regO (bodyOf f40) 2) false [(2, .any), (3, .any), (4, .any), (6, .any), (11, .any)] (ratio_Sub_S1 v) some = (ratio_Sub_r2 C v).eval fun y => some (ratio_Sub_S2 y) := by kernel_rfl
abbrev ratio_Sub_Y3 : Type := Int × Int × Int
def ratio_Sub_S3 (v : ratio_Sub_Y3) : St := ⟨[(4, .ptr 0 0), (5, .int .i64 v.1)], [.cells [.int .i64 v.2.1, .int .i64 v.2.2]]⟩
def ratio_Sub_r3 (C : ratio_Sub_C) (v : ratio_Sub_Y2) : Dt ratio_Sub_Y3 := (Dt.ret (v.1, (0:Int), (0:Int)))
theorem ratio_Sub_g3 (C : ratio_Sub_C) (v : ratio_Sub_Y2) : treg tysT (orc (ratio_Sub_tab C)) 23 (regO (bodyOf f40) 3) false [(4, .any), (5, .any)] (ratio_Sub_S2 v) some = (ratio_Sub_r3 C v).eval fun y => some (ratio_Sub_S3 y) := by kernel_rfl
def ratio_Sub_r4 (C : ratio_Sub_C) (v : ratio_Sub_Y2) : Dt ratio_Sub_Y0 := (Dt.ret (v.2.2.1, v.2.2.2.1, (IntKind.wrap .i64 (0 - v.2.2.2.2.1)), v.2.2.2.2.2.1, v.2.2.2.2.2.2.1, v.2.2.2.2.2.2.2))
theorem ratio_Sub_g4 (C : ratio_Sub_C) (v : ratio_Sub_Y2) : treg tysT (orc (ratio_Sub_tab C)) 23 (regO (bodyOf f40) 4) false [(2, .any), (3, .any), (4, .any)] (ratio_Sub_S2 v) some = (ratio_Sub_r4 C v).eval fun y => some (ratio_Sub_S0 y) := by kernel_rfl
def ratio_Sub_r5 (C : ratio_Sub_C) (v : ratio_Sub_Y0) : Dt ratio_Sub_Y3 := (Dt.bnd (C.2.1 ((v.1, v.2.1, ()), (v.2.2.1, v.2.2.2.1, ()), ())) fun r1 => (Dt.ret (r1.2.2, r1.1, r1.2.1)))
theorem ratio_Sub_g5 (C : ratio_Sub_C) (v : ratio_Sub_Y0) : treg tysT (orc (ratio_Sub_tab C)) 23 (regO (bodyOf f40) 5) false [(4, .any), (5, .any)] (ratio_Sub_S0 v) some = (ratio_Sub_r5 C v).eval fun y => some (ratio_Sub_S3 y) := by kernel_rfl
def F_ratio_Sub (d : Nat) (x : ratio_Sub_X) : Option ratio_Sub_R :=
  (ratio_Sub_r0 (ratio_Sub_K d) (x.1.1, x.1.2.1, x.2.1.1, x.2.1.2.1)).eval fun y0 =>
  (ratio_Sub_r1 (ratio_Sub_K d) y0).eval fun y1 =>
  (ratio_Sub_r2 (ratio_Sub_K d) y1).eval fun y2 =>
  bif y2.2.1 then ((ratio_Sub_r3 (ratio_Sub_K d) y2).eval fun y3 =>
  some (y3.2.1, y3.2.2, y3.1)) else ((ratio_Sub_r4 (ratio_Sub_K d) y2).eval fun y4 =>
  (ratio_Sub_r5 (ratio_Sub_K d) y4).eval fun y5 =>
  some (y5.2.1, y5.2.2, y5.1))
theorem ratio_Sub_cok (d : Nat) : COK prog (ratio_Sub_sp (F_ratio_Sub d)) := by
  have hm : prog.follows .mixedOrders = true := mixed
  have hT := tys
  have hC0 : OrcOK prog (orc (ratio_Sub_tab (ratio_Sub_K d))) := orc_ok (by
    intro S hS
    simp only [ratio_Sub_tab, List.mem_cons, List.not_mem_nil, or_false] at hS
    rcases hS with rfl | rfl
    · exact ratio_both_cok d
    · exact ratio_Add_cok d)
  have hC : OrcOK prog (orc (ratio_Sub_tab (ratio_Sub_K d))) := hC0
  refine cok_of (c := bodyOf f40) (fn := f40) hT (by kernel_rfl) (by kernel_rfl) (by decide) fun x r h w0 φ0 Q hend => ?_
  replace h : F_ratio_Sub d x = some r := h
  unfold F_ratio_Sub at h
  show Run prog w0 φ0 23 (bodyOf f40) ⟨[(0, .agg [.int .i64 x.1.1, .int .i64 x.1.2.1]), (1, .agg [.int .i64 x.2.1.1, .int .i64 x.2.1.2.1])], []⟩ Q
  refine run_seq ?_
  refine run_reg hm hT hC (ratio_Sub_g0 (ratio_Sub_K d) (x.1.1, x.1.2.1, x.2.1.1, x.2.1.2.1)) h ?_
  intro y0 h
  refine cn_then ?_
  refine run_seq ?_
  refine run_seq ?_
  refine run_reg hm hT hC (ratio_Sub_g1 (ratio_Sub_K d) y0) h ?_
  intro y1 h
  refine cn_then ?_
  refine run_seq ?_
  refine run_reg hm hT hC (ratio_Sub_g2 (ratio_Sub_K d) y1) h ?_
  intro y2 h
  refine cn_then ?_
  refine run_cond (v := y2.2.1) (by kernel_rfl) h ?_ ?_
  ·
    intro h
    refine run_seq ?_
    refine run_reg hm hT hC (ratio_Sub_g3 (ratio_Sub_K d) y2) h ?_
    intro y3 h
    refine cn_then ?_
    refine run_ret ?_
    refine cn_then_ret ?_
    cases h
    exact (hend _ (by kernel_rfl)).2
  ·
    intro h
    refine run_skip ?_
    refine cn_then ?_
    refine run_seq ?_
    refine run_reg hm hT hC (ratio_Sub_g4 (ratio_Sub_K d) y2) h ?_
    intro y4 h
    refine cn_then ?_
    refine run_seq ?_
    refine run_reg hm hT hC (ratio_Sub_g5 (ratio_Sub_K d) y4) h ?_
    intro y5 h
    refine cn_then ?_
    refine run_ret ?_
    cases h
    exact (hend _ (by kernel_rfl)).2
abbrev race_Time_ps : List Pk := [.row RLiiiE true, .row Ri false, .row Rii true, .row Rii true]
abbrev race_Time_X : Type := DLiiiE × Di × Dii × Dii × Unit
abbrev race_Time_R : Type := Int × Int × Int
def race_Time_enc (r : race_Time_R) : LV × List Ob := (.tup [.agg [.int .i64 r.1, .int .i64 r.2.1], .int .i64 r.2.2], [])
def race_Time_sp (F : race_Time_X → Option race_Time_R) : Go.Tx.Spec := ⟨39, race_Time_ps, race_Time_R, F, race_Time_enc⟩
abbrev race_Time_C : Type := (race_Reigns_X → Option race_Reigns_R) × (ratio_Sub_X → Option ratio_Sub_R) × (field_Find_X → Option field_Find_R) × (race_check_X → Option race_check_R) × Unit
def race_Time_K (d : Nat) : race_Time_C := (F_race_Reigns d, F_ratio_Sub d, F_field_Find d, F_race_check d, ())
def race_Time_tab (C : race_Time_C) : List Go.Tx.Spec := [race_Reigns_sp C.1, ratio_Sub_sp C.2.1, field_Find_sp C.2.2.1, race_check_sp C.2.2.2.1]
abbrev race_Time_Y0i : Type := List Diii × Int × Int × Int × Int × Int
def race_Time_S0i (v : race_Time_Y0i) : St := ⟨[(0, .agg [.fz Riii v.1]), (1, .int .i64 v.2.1), (2, .agg [.int .i64 v.2.2.1, .int .i64 v.2.2.2.1]), (3, .agg [.int .i64 v.2.2.2.2.1, .int .i64 v.2.2.2.2.2])], []⟩
abbrev race_Time_Y0 : Type := Int × List Diii × Int × Int × Int × Int × Int × Int
def race_Time_S0 (v : race_Time_Y0) : St := ⟨[(1, .int .i64 v.1), (4, .ptr 0 0), (6, .ptr 1 0), (7, .ptr 2 0), (8, .ptr 3 0)], [.cells [.fz Riii v.2.1], .cells [.int .i64 v.2.2.1, .int .i64 v.2.2.2.1], .cells [.int .i64 v.2.2.2.2.1, .int .i64 v.2.2.2.2.2.1], .cells [.int .i64 v.2.2.2.2.2.2.1, .int .i64 v.2.2.2.2.2.2.2]]⟩
def race_Time_r0 (C : race_Time_C) (v : race_Time_Y0i) : Dt race_Time_Y0 := (Dt.ret (v.2.1, v.1, v.2.2.1, v.2.2.2.1, v.2.2.2.2.1, v.2.2.2.2.2, (0:Int), (0:Int)))
theorem race_Time_g0 (C : race_Time_C) (v : race_Time_Y0i) : treg tysT (orc (race_Time_tab C)) 61 (regO (bodyOf f39) 0) false [(1, .any), (4, (.box [.val Riii])), (6, .any), (7, .any), (8, .any)] (race_Time_S0i v) some = (race_Time_r0 C v).eval fun y => some (race_Time_S0 y) := by kernel_rfl
abbrev race_Time_Y1 : Type := Int × Int × List Diii × Int × Int × Int × Int × Int × Int
def race_Time_S1 (v : race_Time_Y1) : St := ⟨[(1, .int .i64 v.1), (4, .ptr 0 0), (6, .ptr 1 0), (7, .ptr 2 0), (8, .ptr 3 0), (10, .int .i64 v.2.1)], [.cells [.fz Riii v.2.2.1], .cells [.int .i64 v.2.2.2.1, .int .i64 v.2.2.2.2.1], .cells [.int .i64 v.2.2.2.2.2.1, .int .i64 v.2.2.2.2.2.2.1], .cells [.int .i64 v.2.2.2.2.2.2.2.1, .int .i64 v.2.2.2.2.2.2.2.2]]⟩
def race_Time_r1 (C : race_Time_C) (v : race_Time_Y0) : Dt race_Time_Y1 := (Dt.bnd (C.2.2.2.1 ((v.2.1, ()), (v.2.2.1, v.2.2.2.1, ()), (v.2.2.2.2.1, v.2.2.2.2.2.1, ()), ())) fun r1 => (Dt.ret (v.1, r1, v.2.1, v.2.2.1, v.2.2.2.1, v.2.2.2.2.1, v.2.2.2.2.2.1, v.2.2.2.2.2.2.1, v.2.2.2.2.2.2.2)))
theorem race_Time_g1 (C : race_Time_C) (v : race_Time_Y0) : treg tysT (orc (race_Time_tab C)) 61 (regO (bodyOf f39) 1) false [(1, .any), (4, (.box [.val Riii])), (6, .any), (7, .any), (8, .any), (10, .any)] (race_Time_S0 v) some = (race_Time_r1 C v).eval fun y => some (race_Time_S1 y) := by kernel_rfl
abbrev race_Time_Y2 : Type := Int × Int × Bool × List Diii × Int × Int × Int × Int × Int × Int
def race_Time_S2 (v : race_Time_Y2) : St := ⟨[(1, .int .i64 v.1), (4, .ptr 0 0), (6, .ptr 1 0), (7, .ptr 2 0), (8, .ptr 3 0), (10, .int .i64 v.2.1), (22, .bool v.2.2.1)], [.cells [.fz Riii v.2.2.2.1], .cells [.int .i64 v.2.2.2.2.1, .int .i64 v.2.2.2.2.2.1], .cells [.int .i64 v.2.2.2.2.2.2.1, .int .i64 v.2.2.2.2.2.2.2.1], .cells [.int .i64 v.2.2.2.2.2.2.2.2.1, .int .i64 v.2.2.2.2.2.2.2.2.2]]⟩
def race_Time_r2 (C : race_Time_C) (v : race_Time_Y1) : Dt race_Time_Y2 := (Dt.ret (v.1, v.2.1, (v.2.1 != (0:Int)), v.2.2.1, v.2.2.2.1, v.2.2.2.2.1, v.2.2.2.2.2.1, v.2.2.2.2.2.2.1, v.2.2.2.2.2.2.2.1, v.2.2.2.2.2.2.2.2))
theorem race_Time_g2 (C : race_Time_C) (v : race_Time_Y1) : treg tysT (orc (race_Time_tab C)) 61 (regO (bodyOf f39) 2) false [(1, .any), (4, (.box [.val Riii])), (6, .any), (7, .any), (8, .any), (10, .any), (22, .any)] (race_Time_S1 v) some = (race_Time_r2 C v).eval fun y => some (race_Time_S2 y) := by kernel_rfl
abbrev race_Time_Y3 : Type := Int × Int × Int
def race_Time_S3 (v : race_Time_Y3) : St := ⟨[(8, .ptr 0 0), (9, .int .i64 v.1)], [.cells [.int .i64 v.2.1, .int .i64 v.2.2]]⟩
def race_Time_r3 (C : race_Time_C) (v : race_Time_Y2) : Dt race_Time_Y3 := (Dt.ret (v.2.1, (0:Int), (0:Int)))
theorem race_Time_g3 (C : race_Time_C) (v : race_Time_Y2) : treg tysT (orc (race_Time_tab C)) 61 (regO (bodyOf f39) 3) false [(8, .any), (9, .any)] (race_Time_S2 v) some = (race_Time_r3 C v).eval fun y => some (race_Time_S3 y) := by kernel_rfl
abbrev race_Time_Y4 : Type := Int × Int × List Diii × Int × Int × Int × Int × Int × Int
def race_Time_S4 (v : race_Time_Y4) : St := ⟨[(1, .int .i64 v.1), (4, .ptr 0 0), (6, .ptr 1 0), (7, .ptr 2 0), (8, .ptr 3 0), (12, .int .i64 v.2.1)], [.cells [.fz Riii v.2.2.1], .cells [.int .i64 v.2.2.2.1, .int .i64 v.2.2.2.2.1], .cells [.int .i64 v.2.2.2.2.2.1, .int .i64 v.2.2.2.2.2.2.1], .cells [.int .i64 v.2.2.2.2.2.2.2.1, .int .i64 v.2.2.2.2.2.2.2.2]]⟩
def race_Time_r4 (C : race_Time_C) (v : race_Time_Y2) : Dt race_Time_Y4 := (Dt.bnd (C.2.2.1 ((v.2.2.2.1, ()), (v.1, ()), ())) fun r1 => (Dt.ret (v.1, r1.2.2.2, v.2.2.2.1, v.2.2.2.2.1, v.2.2.2.2.2.1, v.2.2.2.2.2.2.1, v.2.2.2.2.2.2.2.1, v.2.2.2.2.2.2.2.2.1, v.2.2.2.2.2.2.2.2.2)))
theorem race_Time_g4 (C : race_Time_C) (v : race_Time_Y2) : treg tysT (orc (race_Time_tab C)) 61 (regO (bodyOf f39) 4) false [(1, .any), (4, (.box [.val Riii])), (6, .any), (7, .any), (8, .any), (12, .any)] (race_Time_S2 v) some = (race_Time_r4 C v).eval fun y => some (race_Time_S4 y) := by kernel_rfl
abbrev race_Time_Y5 : Type := Int × Int × Bool × List Diii × Int × Int × Int × Int × Int × Int
def race_Time_S5 (v : race_Time_Y5) : St := ⟨[(1, .int .i64 v.1), (4, .ptr 0 0), (6, .ptr 1 0), (7, .ptr 2 0), (8, .ptr 3 0), (12, .int .i64 v.2.1), (32, .bool v.2.2.1)], [.cells [.fz Riii v.2.2.2.1], .cells [.int .i64 v.2.2.2.2.1, .int .i64 v.2.2.2.2.2.1], .cells [.int .i64 v.2.2.2.2.2.2.1, .int .i64 v.2.2.2.2.2.2.2.1], .cells [.int .i64 v.2.2.2.2.2.2.2.2.1, .int .i64 v.2.2.2.2.2.2.2.2.2]]⟩
def race_Time_r5 (C : race_Time_C) (v : race_Time_Y4) : Dt race_Time_Y5 := (Dt.ret (v.1, v.2.1, (v.2.1 != (0:Int)), v.2.2.1, v.2.2.2.1, v.2.2.2.2.1, v.2.2.2.2.2.1, v.2.2.2.2.2.2.1, v.2.2.2.2.2.2.2.1, v.2.2.2.2.2.2.2.2))
theorem race_Time_g5 (C : race_Time_C) (v : race_Time_Y4) : treg tysT (orc (race_Time_tab C)) 61 (regO (bodyOf f39) 5) false [(1, .any), (4, (.box [.val Riii])), (6, .any), (7, .any), (8, .any), (12, .any), (32, .any)] (race_Time_S4 v) some = (race_Time_r5 C v).eval fun y => some (race_Time_S5 y) := by kernel_rfl
def race_Time_r6 (C : race_Time_C) (v : race_Time_Y5) : Dt race_Time_Y3 := (Dt.ret (v.2.1, (0:Int), (0:Int)))
theorem race_Time_g6 (C : race_Time_C) (v : race_Time_Y5) : treg tysT (orc (race_Time_tab C)) 61 (regO (bodyOf f39) 6) false [(8, .any), (9, .any)] (race_Time_S5 v) some = (race_Time_r6 C v).eval fun y => some (race_Time_S3 y) := by kernel_rfl
abbrev race_Time_Y7 : Type := Int × Int × Int × List Diiiii
def race_Time_S7 (v : race_Time_Y7) : St := ⟨[(1, .int .i64 v.1), (8, .ptr 0 0), (13, .rs 1)], [.cells [.int .i64 v.2.1, .int .i64 v.2.2.1], .rows Riiiii v.2.2.2]⟩
def race_Time_r7 (C : race_Time_C) (v : race_Time_Y5) : Dt race_Time_Y7 := (Dt.bnd (C.1 ((v.2.2.2.1, ()), (v.2.2.2.2.1, v.2.2.2.2.2.1, ()), (v.2.2.2.2.2.2.1, v.2.2.2.2.2.2.2.1, ()), ())) fun r1 => (Dt.ret (v.1, v.2.2.2.2.2.2.2.2.1, v.2.2.2.2.2.2.2.2.2, r1.1)))
theorem race_Time_g7 (C : race_Time_C) (v : race_Time_Y5) : treg tysT (orc (race_Time_tab C)) 61 (regO (bodyOf f39) 7) false [(1, .any), (8, .any), (13, (.own Riiiii))] (race_Time_S5 v) some = (race_Time_r7 C v).eval fun y => some (race_Time_S7 y) := by kernel_rfl
abbrev race_Time_Y8 : Type := Int × Int × Int × Int × Int × List Diiiii
def race_Time_S8 (v : race_Time_Y8) : St := ⟨[(1, .int .i64 v.1), (8, .ptr 0 0), (42, .rs 1), (43, .int .i64 v.2.1), (44, .int .i64 v.2.2.1)], [.cells [.int .i64 v.2.2.2.1, .int .i64 v.2.2.2.2.1], .rows Riiiii v.2.2.2.2.2]⟩
def race_Time_r8 (C : race_Time_C) (v : race_Time_Y7) : Dt race_Time_Y8 := (Dt.ret (v.1, (List.length v.2.2.2 : Int), (0:Int), v.2.1, v.2.2.1, v.2.2.2))
theorem race_Time_g8 (C : race_Time_C) (v : race_Time_Y7) : treg tysT (orc (race_Time_tab C)) 61 (regO (bodyOf f39) 8) false [(1, .any), (8, .any), (42, (.own Riiiii)), (43, .any), (44, .any)] (race_Time_S7 v) some = (race_Time_r8 C v).eval fun y => some (race_Time_S8 y) := by kernel_rfl
abbrev race_Time_Y9 : Type := Int × Int × Int × Bool × Int × Int × List Diiiii
def race_Time_S9 (v : race_Time_Y9) : St := ⟨[(1, .int .i64 v.1), (8, .ptr 0 0), (42, .rs 1), (43, .int .i64 v.2.1), (44, .int .i64 v.2.2.1), (45, .bool v.2.2.2.1)], [.cells [.int .i64 v.2.2.2.2.1, .int .i64 v.2.2.2.2.2.1], .rows Riiiii v.2.2.2.2.2.2]⟩
def race_Time_r9 (C : race_Time_C) (v : race_Time_Y8) : Dt race_Time_Y9 := (Dt.ret (v.1, v.2.1, v.2.2.1, (decide (v.2.2.1 < v.2.1)), v.2.2.2.1, v.2.2.2.2.1, v.2.2.2.2.2))
theorem race_Time_g9 (C : race_Time_C) (v : race_Time_Y8) : treg tysT (orc (race_Time_tab C)) 61 (regO (bodyOf f39) 9) false [(1, .any), (8, .any), (42, (.own Riiiii)), (43, .any), (44, .any), (45, .any)] (race_Time_S8 v) some = (race_Time_r9 C v).eval fun y => some (race_Time_S9 y) := by kernel_rfl
abbrev race_Time_Y10 : Type := Int × Int × Int × Int × Int × Int × Int × Int × Int × Int × List Diiiii
def race_Time_S10 (v : race_Time_Y10) : St := ⟨[(1, .int .i64 v.1), (8, .ptr 0 0), (16, .ptr 1 0), (42, .rs 2), (43, .int .i64 v.2.1), (44, .int .i64 v.2.2.1)], [.cells [.int .i64 v.2.2.2.1, .int .i64 v.2.2.2.2.1], .cells [.int .i64 v.2.2.2.2.2.1, .int .i64 v.2.2.2.2.2.2.1, .int .i64 v.2.2.2.2.2.2.2.1, .int .i64 v.2.2.2.2.2.2.2.2.1, .int .i64 v.2.2.2.2.2.2.2.2.2.1], .rows Riiiii v.2.2.2.2.2.2.2.2.2.2]⟩
def race_Time_r10 (C : race_Time_C) (v : race_Time_Y9) : Dt race_Time_Y10 := (Dt.ite (inB v.2.2.1 (List.length v.2.2.2.2.2.2)) (Dt.ret (v.1, v.2.1, v.2.2.1, v.2.2.2.2.1, v.2.2.2.2.2.1, (elt ziiiii v.2.2.2.2.2.2 (v.2.2.1).toNat).1, (elt ziiiii v.2.2.2.2.2.2 (v.2.2.1).toNat).2.1, (elt ziiiii v.2.2.2.2.2.2 (v.2.2.1).toNat).2.2.1, (elt ziiiii v.2.2.2.2.2.2 (v.2.2.1).toNat).2.2.2.1, (elt ziiiii v.2.2.2.2.2.2 (v.2.2.1).toNat).2.2.2.2.1, v.2.2.2.2.2.2)) Dt.fail)
theorem race_Time_g10 (C : race_Time_C) (v : race_Time_Y9) : treg tysT (orc (race_Time_tab C)) 61 (regO (bodyOf f39) 10) false [(1, .any), (8, .any), (16, .any), (42, (.own Riiiii)), (43, .any), (44, .any)] (race_Time_S9 v) some = (race_Time_r10 C v).eval fun y => some (race_Time_S10 y) := by kernel_rfl
abbrev race_Time_Y11 : Type := Int × Int × Int × Bool × Int × Int × Int × Int × Int × Int × Int × List Diiiii
def race_Time_S11 (v : race_Time_Y11) : St := ⟨[(1, .int .i64 v.1), (8, .ptr 0 0), (16, .ptr 1 0), (42, .rs 2), (43, .int .i64 v.2.1), (44, .int .i64 v.2.2.1), (51, .bool v.2.2.2.1)], [.cells [.int .i64 v.2.2.2.2.1, .int .i64 v.2.2.2.2.2.1], .cells [.int .i64 v.2.2.2.2.2.2.1, .int .i64 v.2.2.2.2.2.2.2.1, .int .i64 v.2.2.2.2.2.2.2.2.1, .int .i64 v.2.2.2.2.2.2.2.2.2.1, .int .i64 v.2.2.2.2.2.2.2.2.2.2.1], .rows Riiiii v.2.2.2.2.2.2.2.2.2.2.2]⟩
def race_Time_r11 (C : race_Time_C) (v : race_Time_Y10) : Dt race_Time_Y11 := (Dt.ret (v.1, v.2.1, v.2.2.1, (v.2.2.2.2.2.2.2.2.2.1 == v.1), v.2.2.2.1, v.2.2.2.2.1, v.2.2.2.2.2.1, v.2.2.2.2.2.2.1, v.2.2.2.2.2.2.2.1, v.2.2.2.2.2.2.2.2.1, v.2.2.2.2.2.2.2.2.2.1, v.2.2.2.2.2.2.2.2.2.2))
theorem race_Time_g11 (C : race_Time_C) (v : race_Time_Y10) : treg tysT (orc (race_Time_tab C)) 61 (regO (bodyOf f39) 11) false [(1, .any), (8, .any), (16, .any), (42, (.own Riiiii)), (43, .any), (44, .any), (51, .any)] (race_Time_S10 v) some = (race_Time_r11 C v).eval fun y => some (race_Time_S11 y) := by kernel_rfl
def race_Time_r12 (C : race_Time_C) (v : race_Time_Y11) : Dt race_Time_Y3 := (Dt.bnd (C.2.1 ((v.2.2.2.2.2.2.2.2.1, v.2.2.2.2.2.2.2.2.2.1, ()), (v.2.2.2.2.2.2.1, v.2.2.2.2.2.2.2.1, ()), ())) fun r1 => (Dt.ret (r1.2.2, r1.1, r1.2.1)))
theorem race_Time_g12 (C : race_Time_C) (v : race_Time_Y11) : treg tysT (orc (race_Time_tab C)) 61 (regO (bodyOf f39) 12) false [(8, .any), (9, .any)] (race_Time_S11 v) some = (race_Time_r12 C v).eval fun y => some (race_Time_S3 y) := by kernel_rfl
def race_Time_r13 (C : race_Time_C) (v : race_Time_Y11) : Dt race_Time_Y8 := (Dt.ret (v.1, v.2.1, (IntKind.wrap .i64 (v.2.2.1 + (1:Int))), v.2.2.2.2.1, v.2.2.2.2.2.1, v.2.2.2.2.2.2.2.2.2.2.2))
theorem race_Time_g13 (C : race_Time_C) (v : race_Time_Y11) : treg tysT (orc (race_Time_tab C)) 61 (regO (bodyOf f39) 13) false [(1, .any), (8, .any), (42, (.own Riiiii)), (43, .any), (44, .any)] (race_Time_S11 v) some = (race_Time_r13 C v).eval fun y => some (race_Time_S8 y) := by kernel_rfl
def race_Time_r14 (C : race_Time_C) (v : race_Time_Y9) : Dt race_Time_Y3 := (Dt.ret ((0:Int), (0:Int), (1:Int)))
theorem race_Time_g14 (C : race_Time_C) (v : race_Time_Y9) : treg tysT (orc (race_Time_tab C)) 61 (regO (bodyOf f39) 14) false [(8, .any), (9, .any)] (race_Time_S9 v) some = (race_Time_r14 C v).eval fun y => some (race_Time_S3 y) := by kernel_rfl
def race_Time_L1 (d : Nat) (self1 : (Int × Int × Int × Int × Int × List Diiiii) → Option race_Time_R) (x1 : Int × Int × Int × Int × Int × List Diiiii) : Option race_Time_R :=
  (race_Time_r9 (race_Time_K d) x1).eval fun y9 =>
  bif y9.2.2.2.1 then ((race_Time_r10 (race_Time_K d) y9).eval fun y10 =>
  (race_Time_r11 (race_Time_K d) y10).eval fun y11 =>
  bif y11.2.2.2.1 then ((race_Time_r12 (race_Time_K d) y11).eval fun y12 =>
  some (y12.2.1, y12.2.2, y12.1)) else ((race_Time_r13 (race_Time_K d) y11).eval fun y13 =>
  self1 y13)) else ((race_Time_r14 (race_Time_K d) y9).eval fun y14 =>
  some (y14.2.1, y14.2.2, y14.1))
def F_race_Time (d : Nat) (x : race_Time_X) : Option race_Time_R :=
  (race_Time_r0 (race_Time_K d) (x.1.1, x.2.1.1, x.2.2.1.1, x.2.2.1.2.1, x.2.2.2.1.1, x.2.2.2.1.2.1)).eval fun y0 =>
  (race_Time_r1 (race_Time_K d) y0).eval fun y1 =>
  (race_Time_r2 (race_Time_K d) y1).eval fun y2 =>
  bif y2.2.2.1 then ((race_Time_r3 (race_Time_K d) y2).eval fun y3 =>
  some (y3.2.1, y3.2.2, y3.1)) else ((race_Time_r4 (race_Time_K d) y2).eval fun y4 =>
  (race_Time_r5 (race_Time_K d) y4).eval fun y5 =>
  bif y5.2.2.1 then ((race_Time_r6 (race_Time_K d) y5).eval fun y6 =>
  some (y6.2.1, y6.2.2, y6.1)) else ((race_Time_r7 (race_Time_K d) y5).eval fun y7 =>
  (race_Time_r8 (race_Time_K d) y7).eval fun y8 =>
  iter (race_Time_L1 d ) d y8))
theorem race_Time_cok (d : Nat) : COK prog (race_Time_sp (F_race_Time d)) := by
  have hm : prog.follows .mixedOrders = true := mixed
  have hT := tys
  have hC0 : OrcOK prog (orc (race_Time_tab (race_Time_K d))) := orc_ok (by
    intro S hS
    simp only [race_Time_tab, List.mem_cons, List.not_mem_nil, or_false] at hS
    rcases hS with rfl | rfl | rfl | rfl
    · exact race_Reigns_cok d
    · exact ratio_Sub_cok d
    · exact field_Find_cok d
    · exact race_check_cok d)
  have hC : OrcOK prog (orc (race_Time_tab (race_Time_K d))) := hC0
  refine cok_of (c := bodyOf f39) (fn := f39) hT (by kernel_rfl) (by kernel_rfl) (by decide) fun x r h w0 φ0 Q hend => ?_
  replace h : F_race_Time d x = some r := h
  unfold F_race_Time at h
  show Run prog w0 φ0 61 (bodyOf f39) ⟨[(0, .agg [.fz Riii x.1.1]), (1, .int .i64 x.2.1.1), (2, .agg [.int .i64 x.2.2.1.1, .int .i64 x.2.2.1.2.1]), (3, .agg [.int .i64 x.2.2.2.1.1, .int .i64 x.2.2.2.1.2.1])], []⟩ Q
  refine run_seq ?_
  refine run_reg hm hT hC (race_Time_g0 (race_Time_K d) (x.1.1, x.2.1.1, x.2.2.1.1, x.2.2.1.2.1, x.2.2.2.1.1, x.2.2.2.1.2.1)) h ?_
  intro y0 h
  refine cn_then ?_
  refine run_seq ?_
  refine run_seq ?_
  refine run_reg hm hT hC (race_Time_g1 (race_Time_K d) y0) h ?_
  intro y1 h
  refine cn_then ?_
  refine run_seq ?_
  refine run_reg hm hT hC (race_Time_g2 (race_Time_K d) y1) h ?_
  intro y2 h
  refine cn_then ?_
  refine run_cond (v := y2.2.2.1) (by kernel_rfl) h ?_ ?_
  ·
    intro h
    refine run_seq ?_
    refine run_reg hm hT hC (race_Time_g3 (race_Time_K d) y2) h ?_
    intro y3 h
    refine cn_then ?_
    refine run_ret ?_
    refine cn_then_ret ?_
    cases h
    exact (hend _ (by kernel_rfl)).2
  ·
    intro h
    refine run_skip ?_
    refine cn_then ?_
    refine run_seq ?_
    refine run_seq ?_
    refine run_reg hm hT hC (race_Time_g4 (race_Time_K d) y2) h ?_
    intro y4 h
    refine cn_then ?_
    refine run_seq ?_
    refine run_reg hm hT hC (race_Time_g5 (race_Time_K d) y4) h ?_
    intro y5 h
    refine cn_then ?_
    refine run_cond (v := y5.2.2.1) (by kernel_rfl) h ?_ ?_
    ·
      intro h
      refine run_seq ?_
      refine run_reg hm hT hC (race_Time_g6 (race_Time_K d) y5) h ?_
      intro y6 h
      refine cn_then ?_
      refine run_ret ?_
      refine cn_then_ret ?_
      cases h
      exact (hend _ (by kernel_rfl)).2
    ·
      intro h
      refine run_skip ?_
      refine cn_then ?_
      refine run_seq ?_
      refine run_reg hm hT hC (race_Time_g7 (race_Time_K d) y5) h ?_
      intro y7 h
      refine cn_then ?_
      refine run_seq ?_
      refine run_seq ?_
      refine run_reg hm hT hC (race_Time_g8 (race_Time_K d) y7) h ?_
      intro y8 h
      refine cn_then ?_
      refine run_block ?_
      refine run_loop (G := iter (race_Time_L1 d )) (S := (fun x1 => ⟨[(1, .int .i64 x1.1), (8, .ptr 0 0), (42, .rs 1), (43, .int .i64 x1.2.1), (44, .int .i64 x1.2.2.1)], [.cells [.int .i64 x1.2.2.2.1, .int .i64 x1.2.2.2.2.1], .rows Riiiii x1.2.2.2.2.2]⟩ : Int × Int × Int × Int × Int × List Diiiii → St)) (fun _ => rfl) ?_ d _ h
      intro n1 x1 h K1 hn1
      replace h : race_Time_L1 d  (iter (race_Time_L1 d ) n1) x1 = some r := h
      generalize iter (race_Time_L1 d ) n1 = self1 at h hn1
      unfold race_Time_L1 at h
      refine run_seq ?_
      refine run_reg hm hT hC (race_Time_g9 (race_Time_K d) x1) h ?_
      intro y9 h
      refine cn_then ?_
      refine run_seq ?_
      refine run_cond (v := y9.2.2.2.1) (by kernel_rfl) h ?_ ?_
      ·
        intro h
        refine run_skip ?_
        refine cn_then ?_
        refine run_seq ?_
        refine run_block ?_
        refine run_seq ?_
        refine run_reg hm hT hC (race_Time_g10 (race_Time_K d) y9) h ?_
        intro y10 h
        refine cn_then ?_
        refine run_seq ?_
        refine run_reg hm hT hC (race_Time_g11 (race_Time_K d) y10) h ?_
        intro y11 h
        refine cn_then ?_
        refine run_cond (v := y11.2.2.2.1) (by kernel_rfl) h ?_ ?_
        ·
          intro h
          refine run_seq ?_
          refine run_reg hm hT hC (race_Time_g12 (race_Time_K d) y11) h ?_
          intro y12 h
          refine cn_then ?_
          refine run_ret ?_
          refine cn_blk_ret ?_
          refine cn_then_ret ?_
          refine cn_then_ret ?_
          refine cn_blk_ret ?_
          refine cn_then_ret ?_
          cases h
          exact (hend _ (by kernel_rfl)).2
        ·
          intro h
          refine run_skip ?_
          refine cn_blk ?_
          refine cn_then ?_
          refine run_reg hm hT hC (race_Time_g13 (race_Time_K d) y11) h ?_
          intro y13 h
          exact hn1 _ h
      ·
        intro h
        refine run_exit ?_
        refine cn_then_exit ?_
        refine cn_then_exit ?_
        refine cn_blk_eq ?_
        refine cn_then ?_
        refine run_seq ?_
        refine run_reg hm hT hC (race_Time_g14 (race_Time_K d) y9) h ?_
        intro y14 h
        refine cn_then ?_
        refine run_ret ?_
        cases h
        exact (hend _ (by kernel_rfl)).2
abbrev race_Medals_ps : List Pk := [.row RLiiiE true, .row Rii true]
abbrev race_Medals_X : Type := DLiiiE × Dii × Unit
abbrev race_Medals_R : Type := List Di × Int
def race_Medals_enc (r : race_Medals_R) : LV × List Ob := (.tup [.fz Ri r.1, .int .i64 r.2], [])
def race_Medals_sp (F : race_Medals_X → Option race_Medals_R) : Go.Tx.Spec := ⟨42, race_Medals_ps, race_Medals_R, F, race_Medals_enc⟩
abbrev race_Medals_C : Type := (field_Order_X → Option field_Order_R) × Unit
def race_Medals_K (d : Nat) : race_Medals_C := (F_field_Order d, ())
def race_Medals_tab (C : race_Medals_C) : List Go.Tx.Spec := [field_Order_sp C.1]
abbrev race_Medals_Y0i : Type := List Diii × Int × Int
def race_Medals_S0i (v : race_Medals_Y0i) : St := ⟨[(0, .agg [.fz Riii v.1]), (1, .agg [.int .i64 v.2.1, .int .i64 v.2.2])], []⟩
abbrev race_Medals_Y0 : Type := List Diii × Int × Int
def race_Medals_S0 (v : race_Medals_Y0) : St := ⟨[(2, .ptr 0 0), (3, .ptr 1 0)], [.cells [.fz Riii v.1], .cells [.int .i64 v.2.1, .int .i64 v.2.2]]⟩
def race_Medals_r0 (C : race_Medals_C) (v : race_Medals_Y0i) : Dt race_Medals_Y0 := (Dt.ret (v.1, v.2.1, v.2.2))
theorem race_Medals_g0 (C : race_Medals_C) (v : race_Medals_Y0i) : treg tysT (orc (race_Medals_tab C)) 22 (regO (bodyOf f42) 0) false [(2, (.box [.val Riii])), (3, .any)] (race_Medals_S0i v) some = (race_Medals_r0 C v).eval fun y => some (race_Medals_S0 y) := by kernel_rfl
abbrev race_Medals_Y1 : Type := Int × List Di
def race_Medals_S1 (v : race_Medals_Y1) : St := ⟨[(6, .rs 0), (7, .int .i64 v.1)], [.rows Ri v.2]⟩
def race_Medals_r1 (C : race_Medals_C) (v : race_Medals_Y0) : Dt race_Medals_Y1 := (Dt.bnd (C.1 ((v.1, ()), (v.2.1, v.2.2, ()), ())) fun r1 => (Dt.ret (r1.2, r1.1)))
theorem race_Medals_g1 (C : race_Medals_C) (v : race_Medals_Y0) : treg tysT (orc (race_Medals_tab C)) 22 (regO (bodyOf f42) 1) false [(6, (.own Ri)), (7, .any)] (race_Medals_S0 v) some = (race_Medals_r1 C v).eval fun y => some (race_Medals_S1 y) := by kernel_rfl
abbrev race_Medals_Y2 : Type := Int × Bool × List Di
def race_Medals_S2 (v : race_Medals_Y2) : St := ⟨[(6, .rs 0), (7, .int .i64 v.1), (15, .bool v.2.1)], [.rows Ri v.2.2]⟩
def race_Medals_r2 (C : race_Medals_C) (v : race_Medals_Y1) : Dt race_Medals_Y2 := (Dt.ret (v.1, (v.1 != (0:Int)), v.2))
theorem race_Medals_g2 (C : race_Medals_C) (v : race_Medals_Y1) : treg tysT (orc (race_Medals_tab C)) 22 (regO (bodyOf f42) 2) false [(6, (.own Ri)), (7, .any), (15, .any)] (race_Medals_S1 v) some = (race_Medals_r2 C v).eval fun y => some (race_Medals_S2 y) := by kernel_rfl
abbrev race_Medals_Y3 : Type := List Di × Int
def race_Medals_S3 (v : race_Medals_Y3) : St := ⟨[(4, .fz Ri v.1), (5, .int .i64 v.2)], []⟩
def race_Medals_r3 (C : race_Medals_C) (v : race_Medals_Y2) : Dt race_Medals_Y3 := (Dt.ret (([] : List Di), v.1))
theorem race_Medals_g3 (C : race_Medals_C) (v : race_Medals_Y2) : treg tysT (orc (race_Medals_tab C)) 22 (regO (bodyOf f42) 3) false [(4, (.val Ri)), (5, .any)] (race_Medals_S2 v) some = (race_Medals_r3 C v).eval fun y => some (race_Medals_S3 y) := by kernel_rfl
def race_Medals_r4 (C : race_Medals_C) (v : race_Medals_Y2) : Dt race_Medals_Y3 := (Dt.ite (decide (0 ≤ (tmin (List.length v.2.2 : Int) (3:Int))) && decide ((tmin (List.length v.2.2 : Int) (3:Int)) ≤ (List.length v.2.2 : Int))) (Dt.ret ((List.take ((tmin (List.length v.2.2 : Int) (3:Int))).toNat v.2.2), (0:Int))) Dt.fail)
theorem race_Medals_g4 (C : race_Medals_C) (v : race_Medals_Y2) : treg tysT (orc (race_Medals_tab C)) 22 (regO (bodyOf f42) 4) false [(4, (.val Ri)), (5, .any)] (race_Medals_S2 v) some = (race_Medals_r4 C v).eval fun y => some (race_Medals_S3 y) := by kernel_rfl
def F_race_Medals (d : Nat) (x : race_Medals_X) : Option race_Medals_R :=
  (race_Medals_r0 (race_Medals_K d) (x.1.1, x.2.1.1, x.2.1.2.1)).eval fun y0 =>
  (race_Medals_r1 (race_Medals_K d) y0).eval fun y1 =>
  (race_Medals_r2 (race_Medals_K d) y1).eval fun y2 =>
  bif y2.2.1 then ((race_Medals_r3 (race_Medals_K d) y2).eval fun y3 =>
  some y3) else ((race_Medals_r4 (race_Medals_K d) y2).eval fun y4 =>
  some y4)
theorem race_Medals_cok (d : Nat) : COK prog (race_Medals_sp (F_race_Medals d)) := by
  have hm : prog.follows .mixedOrders = true := mixed
  have hT := tys
  have hC0 : OrcOK prog (orc (race_Medals_tab (race_Medals_K d))) := orc_ok (by
    intro S hS
    simp only [race_Medals_tab, List.mem_cons, List.not_mem_nil, or_false] at hS
    subst hS; exact field_Order_cok d)
  have hC : OrcOK prog (orc (race_Medals_tab (race_Medals_K d))) := hC0
  refine cok_of (c := bodyOf f42) (fn := f42) hT (by kernel_rfl) (by kernel_rfl) (by decide) fun x r h w0 φ0 Q hend => ?_
  replace h : F_race_Medals d x = some r := h
  unfold F_race_Medals at h
  show Run prog w0 φ0 22 (bodyOf f42) ⟨[(0, .agg [.fz Riii x.1.1]), (1, .agg [.int .i64 x.2.1.1, .int .i64 x.2.1.2.1])], []⟩ Q
  refine run_seq ?_
  refine run_reg hm hT hC (race_Medals_g0 (race_Medals_K d) (x.1.1, x.2.1.1, x.2.1.2.1)) h ?_
  intro y0 h
  refine cn_then ?_
  refine run_seq ?_
  refine run_reg hm hT hC (race_Medals_g1 (race_Medals_K d) y0) h ?_
  intro y1 h
  refine cn_then ?_
  refine run_seq ?_
  refine run_seq ?_
  refine run_reg hm hT hC (race_Medals_g2 (race_Medals_K d) y1) h ?_
  intro y2 h
  refine cn_then ?_
  refine run_cond (v := y2.2.1) (by kernel_rfl) h ?_ ?_
  ·
    intro h
    refine run_seq ?_
    refine run_reg hm hT hC (race_Medals_g3 (race_Medals_K d) y2) h ?_
    intro y3 h
    refine cn_then ?_
    refine run_ret ?_
    refine cn_then_ret ?_
    cases h
    exact (hend _ (by kernel_rfl)).2
  ·
    intro h
    refine run_skip ?_
    refine cn_then ?_
    refine run_seq ?_
    refine run_reg hm hT hC (race_Medals_g4 (race_Medals_K d) y2) h ?_
    intro y4 h
    refine cn_then ?_
    refine run_ret ?_
    cases h
    exact (hend _ (by kernel_rfl)).2
end Go.Proofs.Ytdpnndpbbdhnmaa
