/- Walks of the references; the orders agree; examples. -/
import Derived.Test.YtkcpnclgcmnlcaaGi
set_option linter.unusedSimpArgs false
set_option linter.unusedVariables false
namespace Go.Proofs.Ytkcpnclgcmnlcaa
open Go Go.Tx Go.Proofs.Try
set_option maxRecDepth 100000
set_option maxHeartbeats 0
abbrev bracket_Set_1_ps : List Pk := [.row Ri false]
abbrev bracket_Set_1_X : Type := Di × Unit
abbrev bracket_Set_1_R : Type := List Di × List Di × List Di × Int
def bracket_Set_1_enc (r : bracket_Set_1_R) : LV × List Ob := (.tup [.agg [.rs 0, .rs 1], .rs 2, .int .i64 r.2.2.2], [.rows Ri r.1, .rows Ri r.2.1, .rows Ri r.2.2.1])
def bracket_Set_1_sp (F : bracket_Set_1_X → Option bracket_Set_1_R) : Go.Tx.Spec := ⟨73, bracket_Set_1_ps, bracket_Set_1_R, F, bracket_Set_1_enc⟩
abbrev bracket_Set_1_C : Type := Unit
def bracket_Set_1_K (_d : Nat) : bracket_Set_1_C := ()
def bracket_Set_1_tab (C : bracket_Set_1_C) : List Go.Tx.Spec := []
abbrev bracket_Set_1_Y0i : Type := Int
def bracket_Set_1_S0i (v : bracket_Set_1_Y0i) : St := ⟨[(0, .int .i64 v)], []⟩
abbrev bracket_Set_1_Y0 : Type := Int × List Di × List Di
def bracket_Set_1_S0 (v : bracket_Set_1_Y0) : St := ⟨[(0, .int .i64 v.1), (2, .ptr 0 0)], [.cells [.rs 1, .rs 2], .rows Ri v.2.1, .rows Ri v.2.2]⟩
def bracket_Set_1_r0 (C : bracket_Set_1_C) (v : bracket_Set_1_Y0i) : Dt bracket_Set_1_Y0 := (Dt.ret (v, ([] : List Di), ([] : List Di)))
theorem bracket_Set_1_g0 (C : bracket_Set_1_C) (v : bracket_Set_1_Y0i) : treg tysT (orc (bracket_Set_1_tab C)) 7 (regO (bodyOf f73) 0) false [(0, .any), (2, (.box [.own Ri, .own Ri]))] (bracket_Set_1_S0i v) some = (bracket_Set_1_r0 C v).eval fun y => some (bracket_Set_1_S0 y) := by kernel_rfl
abbrev bracket_Set_1_Y1 : Type := Int × List Di × List Di × List Di
def bracket_Set_1_S1 (v : bracket_Set_1_Y1) : St := ⟨[(2, .ptr 0 0), (3, .rs 3), (4, .int .i64 v.1)], [.cells [.rs 1, .rs 2], .rows Ri v.2.1, .rows Ri v.2.2.1, .rows Ri v.2.2.2]⟩
def bracket_Set_1_r1 (C : bracket_Set_1_C) (v : bracket_Set_1_Y0) : Dt bracket_Set_1_Y1 := (Dt.ret (v.1, ([] : List Di), ([] : List Di), ([] : List Di)))
theorem bracket_Set_1_g1 (C : bracket_Set_1_C) (v : bracket_Set_1_Y0) : treg tysT (orc (bracket_Set_1_tab C)) 7 (regO (bodyOf f73) 1) false [(2, (.box [.own Ri, .own Ri])), (3, (.own Ri)), (4, .any)] (bracket_Set_1_S0 v) some = (bracket_Set_1_r1 C v).eval fun y => some (bracket_Set_1_S1 y) := by kernel_rfl
def F_bracket_Set_1 (d : Nat) (x : bracket_Set_1_X) : Option bracket_Set_1_R :=
  (bracket_Set_1_r0 (bracket_Set_1_K d) x.1.1).eval fun y0 =>
  (bracket_Set_1_r1 (bracket_Set_1_K d) y0).eval fun y1 =>
  some (y1.2.1, y1.2.2.1, y1.2.2.2, y1.1)
theorem bracket_Set_1_cok (d : Nat) : COK prog (bracket_Set_1_sp (F_bracket_Set_1 d)) := by
  have hm : prog.follows .mixedOrders = true := mixed
  have hT := tys
  have hC : OrcOK prog (orc (bracket_Set_1_tab (bracket_Set_1_K d))) := orc_ok (by
    intro S hS
    simp only [bracket_Set_1_tab, List.mem_cons, List.not_mem_nil, or_false] at hS
    all_goals first | cases hS | exact hS.elim)
  refine cok_of (c := bodyOf f73) (fn := f73) hT (by kernel_rfl) (by kernel_rfl) (by decide) fun x r h w0 φ0 Q hend => ?_
  replace h : F_bracket_Set_1 d x = some r := h
  unfold F_bracket_Set_1 at h
  show Run prog w0 φ0 7 (bodyOf f73) ⟨[(0, .int .i64 x.1.1)], []⟩ Q
  refine run_seq ?_
  refine run_reg hm hT hC (bracket_Set_1_g0 (bracket_Set_1_K d) x.1.1) h ?_
  intro y0 h
  refine cn_then ?_
  refine run_seq ?_
  refine run_reg hm hT hC (bracket_Set_1_g1 (bracket_Set_1_K d) y0) h ?_
  intro y1 h
  refine cn_then ?_
  refine run_ret ?_
  cases h
  exact (hend _ (by kernel_rfl)).2
abbrev bracket_node_ps : List Pk := [.row RLiELiE true, .row Ri false]
abbrev bracket_node_X : Type := DLiELiE × Di × Unit
abbrev bracket_node_R : Type := Int
def bracket_node_enc (r : bracket_node_R) : LV × List Ob := (.int .i64 r, [])
def bracket_node_sp (F : bracket_node_X → Option bracket_node_R) : Go.Tx.Spec := ⟨80, bracket_node_ps, bracket_node_R, F, bracket_node_enc⟩
abbrev bracket_node_C : Type := Unit
def bracket_node_K (_d : Nat) : bracket_node_C := ()
def bracket_node_tab (C : bracket_node_C) : List Go.Tx.Spec := []
abbrev bracket_node_Y0i : Type := List Di × List Di × Int
def bracket_node_S0i (v : bracket_node_Y0i) : St := ⟨[(0, .agg [.fz Ri v.1, .fz Ri v.2.1]), (1, .int .i64 v.2.2)], []⟩
abbrev bracket_node_Y0 : Type := Int × List Di × List Di
def bracket_node_S0 (v : bracket_node_Y0) : St := ⟨[(1, .int .i64 v.1), (2, .ptr 0 0)], [.cells [.fz Ri v.2.1, .fz Ri v.2.2]]⟩
def bracket_node_r0 (C : bracket_node_C) (v : bracket_node_Y0i) : Dt bracket_node_Y0 := (Dt.ret (v.2.2, v.1, v.2.1))
theorem bracket_node_g0 (C : bracket_node_C) (v : bracket_node_Y0i) : treg tysT (orc (bracket_node_tab C)) 23 (regO (bodyOf f80) 0) false [(1, .any), (2, (.box [.val Ri, .val Ri]))] (bracket_node_S0i v) some = (bracket_node_r0 C v).eval fun y => some (bracket_node_S0 y) := by kernel_rfl
abbrev bracket_node_Y1 : Type := Int × Int × List Di × List Di
def bracket_node_S1 (v : bracket_node_Y1) : St := ⟨[(1, .int .i64 v.1), (2, .ptr 0 0), (5, .int .i64 v.2.1)], [.cells [.fz Ri v.2.2.1, .fz Ri v.2.2.2]]⟩
def bracket_node_r1 (C : bracket_node_C) (v : bracket_node_Y0) : Dt bracket_node_Y1 := (Dt.ret (v.1, (IntKind.wrap .i64 (v.1 - (List.length v.2.2 : Int))), v.2.1, v.2.2))
theorem bracket_node_g1 (C : bracket_node_C) (v : bracket_node_Y0) : treg tysT (orc (bracket_node_tab C)) 23 (regO (bodyOf f80) 1) false [(1, .any), (2, (.box [.val Ri, .val Ri])), (5, .any)] (bracket_node_S0 v) some = (bracket_node_r1 C v).eval fun y => some (bracket_node_S1 y) := by kernel_rfl
abbrev bracket_node_Y2 : Type := Int × Int × Bool × List Di × List Di
def bracket_node_S2 (v : bracket_node_Y2) : St := ⟨[(1, .int .i64 v.1), (2, .ptr 0 0), (5, .int .i64 v.2.1), (12, .bool v.2.2.1)], [.cells [.fz Ri v.2.2.2.1, .fz Ri v.2.2.2.2]]⟩
def bracket_node_r2 (C : bracket_node_C) (v : bracket_node_Y1) : Dt bracket_node_Y2 := (Dt.ret (v.1, v.2.1, (decide (v.2.1 ≥ (0:Int))), v.2.2.1, v.2.2.2))
theorem bracket_node_g2 (C : bracket_node_C) (v : bracket_node_Y1) : treg tysT (orc (bracket_node_tab C)) 23 (regO (bodyOf f80) 2) false [(1, .any), (2, (.box [.val Ri, .val Ri])), (5, .any), (12, .any)] (bracket_node_S1 v) some = (bracket_node_r2 C v).eval fun y => some (bracket_node_S2 y) := by kernel_rfl
abbrev bracket_node_Y3 : Type := Int
def bracket_node_S3 (v : bracket_node_Y3) : St := ⟨[(4, .int .i64 v)], []⟩
def bracket_node_r3 (C : bracket_node_C) (v : bracket_node_Y2) : Dt bracket_node_Y3 := (Dt.ite (inB v.2.1 (List.length v.2.2.2.1)) (Dt.ret (elt zi v.2.2.2.1 (v.2.1).toNat).1) Dt.fail)
theorem bracket_node_g3 (C : bracket_node_C) (v : bracket_node_Y2) : treg tysT (orc (bracket_node_tab C)) 23 (regO (bodyOf f80) 3) false [(4, .any)] (bracket_node_S2 v) some = (bracket_node_r3 C v).eval fun y => some (bracket_node_S3 y) := by kernel_rfl
def bracket_node_r4 (C : bracket_node_C) (v : bracket_node_Y2) : Dt bracket_node_Y3 := (Dt.ite (inB v.1 (List.length v.2.2.2.2)) (Dt.ret (elt zi v.2.2.2.2 (v.1).toNat).1) Dt.fail)
theorem bracket_node_g4 (C : bracket_node_C) (v : bracket_node_Y2) : treg tysT (orc (bracket_node_tab C)) 23 (regO (bodyOf f80) 4) false [(4, .any)] (bracket_node_S2 v) some = (bracket_node_r4 C v).eval fun y => some (bracket_node_S3 y) := by kernel_rfl
def F_bracket_node (d : Nat) (x : bracket_node_X) : Option bracket_node_R :=
  (bracket_node_r0 (bracket_node_K d) (x.1.1, x.1.2.1, x.2.1.1)).eval fun y0 =>
  (bracket_node_r1 (bracket_node_K d) y0).eval fun y1 =>
  (bracket_node_r2 (bracket_node_K d) y1).eval fun y2 =>
  bif y2.2.2.1 then ((bracket_node_r3 (bracket_node_K d) y2).eval fun y3 =>
  some y3) else ((bracket_node_r4 (bracket_node_K d) y2).eval fun y4 =>
  some y4)
theorem bracket_node_cok (d : Nat) : COK prog (bracket_node_sp (F_bracket_node d)) := by
  have hm : prog.follows .mixedOrders = true := mixed
  have hT := tys
  have hC : OrcOK prog (orc (bracket_node_tab (bracket_node_K d))) := orc_ok (by
    intro S hS
    simp only [bracket_node_tab, List.mem_cons, List.not_mem_nil, or_false] at hS
    all_goals first | cases hS | exact hS.elim)
  refine cok_of (c := bodyOf f80) (fn := f80) hT (by kernel_rfl) (by kernel_rfl) (by decide) fun x r h w0 φ0 Q hend => ?_
  replace h : F_bracket_node d x = some r := h
  unfold F_bracket_node at h
  show Run prog w0 φ0 23 (bodyOf f80) ⟨[(0, .agg [.fz Ri x.1.1, .fz Ri x.1.2.1]), (1, .int .i64 x.2.1.1)], []⟩ Q
  refine run_seq ?_
  refine run_reg hm hT hC (bracket_node_g0 (bracket_node_K d) (x.1.1, x.1.2.1, x.2.1.1)) h ?_
  intro y0 h
  refine cn_then ?_
  refine run_seq ?_
  refine run_seq ?_
  refine run_reg hm hT hC (bracket_node_g1 (bracket_node_K d) y0) h ?_
  intro y1 h
  refine cn_then ?_
  refine run_seq ?_
  refine run_reg hm hT hC (bracket_node_g2 (bracket_node_K d) y1) h ?_
  intro y2 h
  refine cn_then ?_
  refine run_cond (v := y2.2.2.1) (by kernel_rfl) h ?_ ?_
  ·
    intro h
    refine run_seq ?_
    refine run_reg hm hT hC (bracket_node_g3 (bracket_node_K d) y2) h ?_
    intro y3 h
    refine cn_then ?_
    refine run_ret ?_
    refine cn_then_ret ?_
    cases h
    exact (hend _ (by kernel_rfl)).2
  ·
    intro h
    refine run_skip ?_
    refine cn_then ?_
    refine run_seq ?_
    refine run_reg hm hT hC (bracket_node_g4 (bracket_node_K d) y2) h ?_
    intro y4 h
    refine cn_then ?_
    refine run_ret ?_
    cases h
    exact (hend _ (by kernel_rfl)).2
abbrev bracket_Set_ps : List Pk := [.row RLiELiE true, .row RLiiiE true, .row Rii true, .row Ri false, .row Ri false]
abbrev bracket_Set_X : Type := DLiELiE × DLiiiE × Dii × Di × Di × Unit
abbrev bracket_Set_R : Type := List Di × List Di × List Di × Int
def bracket_Set_enc (r : bracket_Set_R) : LV × List Ob := (.tup [.agg [.rs 0, .rs 1], .rs 2, .int .i64 r.2.2.2], [.rows Ri r.1, .rows Ri r.2.1, .rows Ri r.2.2.1])
def bracket_Set_sp (F : bracket_Set_X → Option bracket_Set_R) : Go.Tx.Spec := ⟨31, bracket_Set_ps, bracket_Set_R, F, bracket_Set_enc⟩
abbrev bracket_Set_C : Type := (bracket_Check_X → Option bracket_Check_R) × (bracket_Set_1_X → Option bracket_Set_1_R) × (bracket_timed_X → Option bracket_timed_R) × (slices_Clone_int_int_X → Option slices_Clone_int_int_R) × (bracket_known_X → Option bracket_known_R) × (bracket_once_X → Option bracket_once_R) × (bracket_up_X → Option bracket_up_R) × (bracket_won_X → Option bracket_won_R) × (bracket_node_X → Option bracket_node_R) × Unit
def bracket_Set_K (d : Nat) : bracket_Set_C := (F_bracket_Check d, F_bracket_Set_1 d, F_bracket_timed d, F_slices_Clone_int_int d, F_bracket_known d, F_bracket_once d, F_bracket_up d, F_bracket_won d, F_bracket_node d, ())
def bracket_Set_tab (C : bracket_Set_C) : List Go.Tx.Spec := [bracket_Check_sp C.1, bracket_Set_1_sp C.2.1, bracket_timed_sp C.2.2.1, slices_Clone_int_int_sp C.2.2.2.1, bracket_known_sp C.2.2.2.2.1, bracket_once_sp C.2.2.2.2.2.1, bracket_up_sp C.2.2.2.2.2.2.1, bracket_won_sp C.2.2.2.2.2.2.2.1, bracket_node_sp C.2.2.2.2.2.2.2.2.1]
abbrev bracket_Set_Y0i : Type := List Di × List Di × List Diii × Int × Int × Int × Int
def bracket_Set_S0i (v : bracket_Set_Y0i) : St := ⟨[(0, .agg [.fz Ri v.1, .fz Ri v.2.1]), (1, .agg [.fz Riii v.2.2.1]), (2, .agg [.int .i64 v.2.2.2.1, .int .i64 v.2.2.2.2.1]), (3, .int .i64 v.2.2.2.2.2.1), (4, .int .i64 v.2.2.2.2.2.2)], []⟩
abbrev bracket_Set_Y0 : Type := Int × Int × List Di × List Di × List Diii × Int × Int × List Di × List Di
def bracket_Set_S0 (v : bracket_Set_Y0) : St := ⟨[(3, .int .i64 v.1), (4, .int .i64 v.2.1), (5, .ptr 0 0), (6, .ptr 1 0), (7, .ptr 2 0), (10, .ptr 3 0)], [.cells [.fz Ri v.2.2.1, .fz Ri v.2.2.2.1], .cells [.fz Riii v.2.2.2.2.1], .cells [.int .i64 v.2.2.2.2.2.1, .int .i64 v.2.2.2.2.2.2.1], .cells [.rs 4, .rs 5], .rows Ri v.2.2.2.2.2.2.2.1, .rows Ri v.2.2.2.2.2.2.2.2]⟩
def bracket_Set_r0 (C : bracket_Set_C) (v : bracket_Set_Y0i) : Dt bracket_Set_Y0 := (Dt.ret (v.2.2.2.2.2.1, v.2.2.2.2.2.2, v.1, v.2.1, v.2.2.1, v.2.2.2.1, v.2.2.2.2.1, ([] : List Di), ([] : List Di)))
theorem bracket_Set_g0 (C : bracket_Set_C) (v : bracket_Set_Y0i) : treg tysT (orc (bracket_Set_tab C)) 126 (regO (bodyOf f31) 0) false [(3, .any), (4, .any), (5, (.box [.val Ri, .val Ri])), (6, (.box [.val Riii])), (7, .any), (10, (.box [.own Ri, .own Ri]))] (bracket_Set_S0i v) some = (bracket_Set_r0 C v).eval fun y => some (bracket_Set_S0 y) := by kernel_rfl
abbrev bracket_Set_Y1 : Type := Int × Int × List Di × List Di × List Diii × Int × Int × List Di × List Di
def bracket_Set_S1 (v : bracket_Set_Y1) : St := ⟨[(3, .int .i64 v.1), (4, .int .i64 v.2.1), (5, .ptr 0 0), (6, .ptr 1 0), (7, .ptr 2 0), (10, .ptr 3 0), (13, .fn 73 [])], [.cells [.fz Ri v.2.2.1, .fz Ri v.2.2.2.1], .cells [.fz Riii v.2.2.2.2.1], .cells [.int .i64 v.2.2.2.2.2.1, .int .i64 v.2.2.2.2.2.2.1], .cells [.rs 4, .rs 5], .rows Ri v.2.2.2.2.2.2.2.1, .rows Ri v.2.2.2.2.2.2.2.2]⟩
def bracket_Set_r1 (C : bracket_Set_C) (v : bracket_Set_Y0) : Dt bracket_Set_Y1 := (Dt.ret (v.1, v.2.1, v.2.2.1, v.2.2.2.1, v.2.2.2.2.1, v.2.2.2.2.2.1, v.2.2.2.2.2.2.1, v.2.2.2.2.2.2.2.1, v.2.2.2.2.2.2.2.2))
theorem bracket_Set_g1 (C : bracket_Set_C) (v : bracket_Set_Y0) : treg tysT (orc (bracket_Set_tab C)) 126 (regO (bodyOf f31) 1) false [(3, .any), (4, .any), (5, (.box [.val Ri, .val Ri])), (6, (.box [.val Riii])), (7, .any), (10, (.box [.own Ri, .own Ri])), (13, .any)] (bracket_Set_S0 v) some = (bracket_Set_r1 C v).eval fun y => some (bracket_Set_S1 y) := by kernel_rfl
abbrev bracket_Set_Y2 : Type := Int × Int × Int × List Di × List Di × List Diii × Int × Int × List Di × List Di
def bracket_Set_S2 (v : bracket_Set_Y2) : St := ⟨[(3, .int .i64 v.1), (4, .int .i64 v.2.1), (5, .ptr 0 0), (6, .ptr 1 0), (7, .ptr 2 0), (10, .ptr 3 0), (13, .fn 73 []), (14, .int .i64 v.2.2.1)], [.cells [.fz Ri v.2.2.2.1, .fz Ri v.2.2.2.2.1], .cells [.fz Riii v.2.2.2.2.2.1], .cells [.int .i64 v.2.2.2.2.2.2.1, .int .i64 v.2.2.2.2.2.2.2.1], .cells [.rs 4, .rs 5], .rows Ri v.2.2.2.2.2.2.2.2.1, .rows Ri v.2.2.2.2.2.2.2.2.2]⟩
def bracket_Set_r2 (C : bracket_Set_C) (v : bracket_Set_Y1) : Dt bracket_Set_Y2 := (Dt.bnd (C.1 ((v.2.2.1, v.2.2.2.1, ()), ())) fun r1 => (Dt.ret (v.1, v.2.1, r1, v.2.2.1, v.2.2.2.1, v.2.2.2.2.1, v.2.2.2.2.2.1, v.2.2.2.2.2.2.1, v.2.2.2.2.2.2.2.1, v.2.2.2.2.2.2.2.2)))
theorem bracket_Set_g2 (C : bracket_Set_C) (v : bracket_Set_Y1) : treg tysT (orc (bracket_Set_tab C)) 126 (regO (bodyOf f31) 2) false [(3, .any), (4, .any), (5, (.box [.val Ri, .val Ri])), (6, (.box [.val Riii])), (7, .any), (10, (.box [.own Ri, .own Ri])), (13, .any), (14, .any)] (bracket_Set_S1 v) some = (bracket_Set_r2 C v).eval fun y => some (bracket_Set_S2 y) := by kernel_rfl
abbrev bracket_Set_Y3 : Type := Int × Int × Int × Bool × List Di × List Di × List Diii × Int × Int × List Di × List Di
def bracket_Set_S3 (v : bracket_Set_Y3) : St := ⟨[(3, .int .i64 v.1), (4, .int .i64 v.2.1), (5, .ptr 0 0), (6, .ptr 1 0), (7, .ptr 2 0), (10, .ptr 3 0), (13, .fn 73 []), (14, .int .i64 v.2.2.1), (22, .bool v.2.2.2.1)], [.cells [.fz Ri v.2.2.2.2.1, .fz Ri v.2.2.2.2.2.1], .cells [.fz Riii v.2.2.2.2.2.2.1], .cells [.int .i64 v.2.2.2.2.2.2.2.1, .int .i64 v.2.2.2.2.2.2.2.2.1], .cells [.rs 4, .rs 5], .rows Ri v.2.2.2.2.2.2.2.2.2.1, .rows Ri v.2.2.2.2.2.2.2.2.2.2]⟩
def bracket_Set_r3 (C : bracket_Set_C) (v : bracket_Set_Y2) : Dt bracket_Set_Y3 := (Dt.ret (v.1, v.2.1, v.2.2.1, (v.2.2.1 != (0:Int)), v.2.2.2.1, v.2.2.2.2.1, v.2.2.2.2.2.1, v.2.2.2.2.2.2.1, v.2.2.2.2.2.2.2.1, v.2.2.2.2.2.2.2.2.1, v.2.2.2.2.2.2.2.2.2))
theorem bracket_Set_g3 (C : bracket_Set_C) (v : bracket_Set_Y2) : treg tysT (orc (bracket_Set_tab C)) 126 (regO (bodyOf f31) 3) false [(3, .any), (4, .any), (5, (.box [.val Ri, .val Ri])), (6, (.box [.val Riii])), (7, .any), (10, (.box [.own Ri, .own Ri])), (13, .any), (14, .any), (22, .any)] (bracket_Set_S2 v) some = (bracket_Set_r3 C v).eval fun y => some (bracket_Set_S3 y) := by kernel_rfl
abbrev bracket_Set_Y4 : Type := Int × List Di × List Di × List Di
def bracket_Set_S4 (v : bracket_Set_Y4) : St := ⟨[(10, .ptr 0 0), (11, .rs 3), (12, .int .i64 v.1)], [.cells [.rs 1, .rs 2], .rows Ri v.2.1, .rows Ri v.2.2.1, .rows Ri v.2.2.2]⟩
def bracket_Set_r4 (C : bracket_Set_C) (v : bracket_Set_Y3) : Dt bracket_Set_Y4 := (Dt.bnd (C.2.1 ((v.2.2.1, ()), ())) fun r1 => (Dt.ret (r1.2.2.2, r1.1, r1.2.1, r1.2.2.1)))
theorem bracket_Set_g4 (C : bracket_Set_C) (v : bracket_Set_Y3) : treg tysT (orc (bracket_Set_tab C)) 126 (regO (bodyOf f31) 4) false [(10, (.box [.own Ri, .own Ri])), (11, (.own Ri)), (12, .any)] (bracket_Set_S3 v) some = (bracket_Set_r4 C v).eval fun y => some (bracket_Set_S4 y) := by kernel_rfl
abbrev bracket_Set_Y5 : Type := Int × Int × Int × List Di × List Di × List Diii × Int × Int × List Di × List Di
def bracket_Set_S5 (v : bracket_Set_Y5) : St := ⟨[(3, .int .i64 v.1), (4, .int .i64 v.2.1), (5, .ptr 0 0), (6, .ptr 1 0), (7, .ptr 2 0), (10, .ptr 3 0), (13, .fn 73 []), (15, .int .i64 v.2.2.1)], [.cells [.fz Ri v.2.2.2.1, .fz Ri v.2.2.2.2.1], .cells [.fz Riii v.2.2.2.2.2.1], .cells [.int .i64 v.2.2.2.2.2.2.1, .int .i64 v.2.2.2.2.2.2.2.1], .cells [.rs 4, .rs 5], .rows Ri v.2.2.2.2.2.2.2.2.1, .rows Ri v.2.2.2.2.2.2.2.2.2]⟩
def bracket_Set_r5 (C : bracket_Set_C) (v : bracket_Set_Y3) : Dt bracket_Set_Y5 := (Dt.bnd (C.2.2.1 ((v.2.2.2.2.2.2.1, ()), (v.2.2.2.2.2.2.2.1, v.2.2.2.2.2.2.2.2.1, ()), ())) fun r1 => (Dt.ret (v.1, v.2.1, r1, v.2.2.2.2.1, v.2.2.2.2.2.1, v.2.2.2.2.2.2.1, v.2.2.2.2.2.2.2.1, v.2.2.2.2.2.2.2.2.1, v.2.2.2.2.2.2.2.2.2.1, v.2.2.2.2.2.2.2.2.2.2)))
theorem bracket_Set_g5 (C : bracket_Set_C) (v : bracket_Set_Y3) : treg tysT (orc (bracket_Set_tab C)) 126 (regO (bodyOf f31) 5) false [(3, .any), (4, .any), (5, (.box [.val Ri, .val Ri])), (6, (.box [.val Riii])), (7, .any), (10, (.box [.own Ri, .own Ri])), (13, .any), (15, .any)] (bracket_Set_S3 v) some = (bracket_Set_r5 C v).eval fun y => some (bracket_Set_S5 y) := by kernel_rfl
abbrev bracket_Set_Y6 : Type := Int × Int × Int × Bool × List Di × List Di × List Diii × Int × Int × List Di × List Di
def bracket_Set_S6 (v : bracket_Set_Y6) : St := ⟨[(3, .int .i64 v.1), (4, .int .i64 v.2.1), (5, .ptr 0 0), (6, .ptr 1 0), (7, .ptr 2 0), (10, .ptr 3 0), (13, .fn 73 []), (15, .int .i64 v.2.2.1), (33, .bool v.2.2.2.1)], [.cells [.fz Ri v.2.2.2.2.1, .fz Ri v.2.2.2.2.2.1], .cells [.fz Riii v.2.2.2.2.2.2.1], .cells [.int .i64 v.2.2.2.2.2.2.2.1, .int .i64 v.2.2.2.2.2.2.2.2.1], .cells [.rs 4, .rs 5], .rows Ri v.2.2.2.2.2.2.2.2.2.1, .rows Ri v.2.2.2.2.2.2.2.2.2.2]⟩
def bracket_Set_r6 (C : bracket_Set_C) (v : bracket_Set_Y5) : Dt bracket_Set_Y6 := (Dt.ret (v.1, v.2.1, v.2.2.1, (v.2.2.1 != (0:Int)), v.2.2.2.1, v.2.2.2.2.1, v.2.2.2.2.2.1, v.2.2.2.2.2.2.1, v.2.2.2.2.2.2.2.1, v.2.2.2.2.2.2.2.2.1, v.2.2.2.2.2.2.2.2.2))
theorem bracket_Set_g6 (C : bracket_Set_C) (v : bracket_Set_Y5) : treg tysT (orc (bracket_Set_tab C)) 126 (regO (bodyOf f31) 6) false [(3, .any), (4, .any), (5, (.box [.val Ri, .val Ri])), (6, (.box [.val Riii])), (7, .any), (10, (.box [.own Ri, .own Ri])), (13, .any), (15, .any), (33, .any)] (bracket_Set_S5 v) some = (bracket_Set_r6 C v).eval fun y => some (bracket_Set_S6 y) := by kernel_rfl
def bracket_Set_r7 (C : bracket_Set_C) (v : bracket_Set_Y6) : Dt bracket_Set_Y4 := (Dt.bnd (C.2.1 ((v.2.2.1, ()), ())) fun r1 => (Dt.ret (r1.2.2.2, r1.1, r1.2.1, r1.2.2.1)))
theorem bracket_Set_g7 (C : bracket_Set_C) (v : bracket_Set_Y6) : treg tysT (orc (bracket_Set_tab C)) 126 (regO (bodyOf f31) 7) false [(10, (.box [.own Ri, .own Ri])), (11, (.own Ri)), (12, .any)] (bracket_Set_S6 v) some = (bracket_Set_r7 C v).eval fun y => some (bracket_Set_S4 y) := by kernel_rfl
abbrev bracket_Set_Y8 : Type := Int × Int × Bool × List Di × List Di × List Diii × Int × Int × List Di × List Di
def bracket_Set_S8 (v : bracket_Set_Y8) : St := ⟨[(3, .int .i64 v.1), (4, .int .i64 v.2.1), (5, .ptr 0 0), (6, .ptr 1 0), (7, .ptr 2 0), (10, .ptr 3 0), (13, .fn 73 []), (48, .bool v.2.2.1)], [.cells [.fz Ri v.2.2.2.1, .fz Ri v.2.2.2.2.1], .cells [.fz Riii v.2.2.2.2.2.1], .cells [.int .i64 v.2.2.2.2.2.2.1, .int .i64 v.2.2.2.2.2.2.2.1], .cells [.rs 4, .rs 5], .rows Ri v.2.2.2.2.2.2.2.2.1, .rows Ri v.2.2.2.2.2.2.2.2.2]⟩
def bracket_Set_r8 (C : bracket_Set_C) (v : bracket_Set_Y6) : Dt bracket_Set_Y8 := (Dt.ite (decide (v.1 < (0:Int))) (Dt.ret (v.1, v.2.1, true, v.2.2.2.2.1, v.2.2.2.2.2.1, v.2.2.2.2.2.2.1, v.2.2.2.2.2.2.2.1, v.2.2.2.2.2.2.2.2.1, v.2.2.2.2.2.2.2.2.2.1, v.2.2.2.2.2.2.2.2.2.2)) (Dt.ret (v.1, v.2.1, (decide (v.1 ≥ (List.length v.2.2.2.2.1 : Int))), v.2.2.2.2.1, v.2.2.2.2.2.1, v.2.2.2.2.2.2.1, v.2.2.2.2.2.2.2.1, v.2.2.2.2.2.2.2.2.1, v.2.2.2.2.2.2.2.2.2.1, v.2.2.2.2.2.2.2.2.2.2)))
theorem bracket_Set_g8 (C : bracket_Set_C) (v : bracket_Set_Y6) : treg tysT (orc (bracket_Set_tab C)) 126 (regO (bodyOf f31) 8) false [(3, .any), (4, .any), (5, (.box [.val Ri, .val Ri])), (6, (.box [.val Riii])), (7, .any), (10, (.box [.own Ri, .own Ri])), (13, .any), (48, .any)] (bracket_Set_S6 v) some = (bracket_Set_r8 C v).eval fun y => some (bracket_Set_S8 y) := by kernel_rfl
def bracket_Set_r9 (C : bracket_Set_C) (v : bracket_Set_Y8) : Dt bracket_Set_Y4 := (Dt.bnd (C.2.1 (((2:Int), ()), ())) fun r1 => (Dt.ret (r1.2.2.2, r1.1, r1.2.1, r1.2.2.1)))
theorem bracket_Set_g9 (C : bracket_Set_C) (v : bracket_Set_Y8) : treg tysT (orc (bracket_Set_tab C)) 126 (regO (bodyOf f31) 9) false [(10, (.box [.own Ri, .own Ri])), (11, (.own Ri)), (12, .any)] (bracket_Set_S8 v) some = (bracket_Set_r9 C v).eval fun y => some (bracket_Set_S4 y) := by kernel_rfl
abbrev bracket_Set_Y10 : Type := Int × Int × List Di × List Di × List Diii × Int × Int × List Di × List Di × List Di × List Di
def bracket_Set_S10 (v : bracket_Set_Y10) : St := ⟨[(3, .int .i64 v.1), (4, .int .i64 v.2.1), (5, .ptr 0 0), (6, .ptr 1 0), (7, .ptr 2 0), (10, .ptr 3 0), (13, .fn 73 []), (16, .ptr 6 0)], [.cells [.fz Ri v.2.2.1, .fz Ri v.2.2.2.1], .cells [.fz Riii v.2.2.2.2.1], .cells [.int .i64 v.2.2.2.2.2.1, .int .i64 v.2.2.2.2.2.2.1], .cells [.rs 4, .rs 5], .rows Ri v.2.2.2.2.2.2.2.1, .rows Ri v.2.2.2.2.2.2.2.2.1, .cells [.rs 7, .rs 8], .rows Ri v.2.2.2.2.2.2.2.2.2.1, .rows Ri v.2.2.2.2.2.2.2.2.2.2]⟩
def bracket_Set_r10 (C : bracket_Set_C) (v : bracket_Set_Y8) : Dt bracket_Set_Y10 := (Dt.bnd (C.2.2.2.1 ((v.2.2.2.1, ()), ())) fun r1 => (Dt.bnd (C.2.2.2.1 ((v.2.2.2.2.1, ()), ())) fun r2 => (Dt.ret (v.1, v.2.1, v.2.2.2.1, v.2.2.2.2.1, v.2.2.2.2.2.1, v.2.2.2.2.2.2.1, v.2.2.2.2.2.2.2.1, v.2.2.2.2.2.2.2.2.1, v.2.2.2.2.2.2.2.2.2, r1, r2))))
theorem bracket_Set_g10 (C : bracket_Set_C) (v : bracket_Set_Y8) : treg tysT (orc (bracket_Set_tab C)) 126 (regO (bodyOf f31) 10) true [(3, .any), (4, .any), (5, (.box [.val Ri, .val Ri])), (6, (.box [.val Riii])), (7, .any), (10, (.box [.own Ri, .own Ri])), (13, .any), (16, (.box [.own Ri, .own Ri]))] (bracket_Set_S8 v) some = (bracket_Set_r10 C v).eval fun y => some (bracket_Set_S10 y) := by kernel_rfl
abbrev bracket_Set_Y11 : Type := Int × List Di × List Di × List Diii × Int × Int × List Di × List Di × List Di × List Di
def bracket_Set_S11 (v : bracket_Set_Y11) : St := ⟨[(3, .int .i64 v.1), (5, .ptr 0 0), (6, .ptr 1 0), (7, .ptr 2 0), (10, .ptr 3 0), (13, .fn 73 []), (16, .ptr 6 0)], [.cells [.fz Ri v.2.1, .fz Ri v.2.2.1], .cells [.fz Riii v.2.2.2.1], .cells [.int .i64 v.2.2.2.2.1, .int .i64 v.2.2.2.2.2.1], .cells [.rs 4, .rs 5], .rows Ri v.2.2.2.2.2.2.1, .rows Ri v.2.2.2.2.2.2.2.1, .cells [.rs 7, .rs 8], .rows Ri v.2.2.2.2.2.2.2.2.1, .rows Ri v.2.2.2.2.2.2.2.2.2]⟩
def bracket_Set_r11 (C : bracket_Set_C) (v : bracket_Set_Y10) : Dt bracket_Set_Y11 := (Dt.ite (inB v.1 (List.length v.2.2.2.2.2.2.2.2.2.1)) (Dt.ret (v.1, v.2.2.1, v.2.2.2.1, v.2.2.2.2.1, v.2.2.2.2.2.1, v.2.2.2.2.2.2.1, v.2.2.2.2.2.2.2.1, v.2.2.2.2.2.2.2.2.1, (List.set v.2.2.2.2.2.2.2.2.2.1 (v.1).toNat (v.2.1, ())), v.2.2.2.2.2.2.2.2.2.2)) Dt.fail)
theorem bracket_Set_g11 (C : bracket_Set_C) (v : bracket_Set_Y10) : treg tysT (orc (bracket_Set_tab C)) 126 (regO (bodyOf f31) 11) false [(3, .any), (5, (.box [.val Ri, .val Ri])), (6, (.box [.val Riii])), (7, .any), (10, (.box [.own Ri, .own Ri])), (13, .any), (16, (.box [.own Ri, .own Ri]))] (bracket_Set_S10 v) some = (bracket_Set_r11 C v).eval fun y => some (bracket_Set_S11 y) := by kernel_rfl
abbrev bracket_Set_Y12 : Type := Int × Bool × List Di × List Di × List Diii × Int × Int × List Di × List Di × List Di × List Di
def bracket_Set_S12 (v : bracket_Set_Y12) : St := ⟨[(3, .int .i64 v.1), (5, .ptr 0 0), (6, .ptr 1 0), (7, .ptr 2 0), (10, .ptr 3 0), (13, .fn 73 []), (16, .ptr 6 0), (70, .bool v.2.1)], [.cells [.fz Ri v.2.2.1, .fz Ri v.2.2.2.1], .cells [.fz Riii v.2.2.2.2.1], .cells [.int .i64 v.2.2.2.2.2.1, .int .i64 v.2.2.2.2.2.2.1], .cells [.rs 4, .rs 5], .rows Ri v.2.2.2.2.2.2.2.1, .rows Ri v.2.2.2.2.2.2.2.2.1, .cells [.rs 7, .rs 8], .rows Ri v.2.2.2.2.2.2.2.2.2.1, .rows Ri v.2.2.2.2.2.2.2.2.2.2]⟩
def bracket_Set_r12 (C : bracket_Set_C) (v : bracket_Set_Y11) : Dt bracket_Set_Y12 := (Dt.bnd (C.2.2.2.2.1 ((v.2.2.2.1, ()), (v.2.2.2.2.2.2.2.2.1, ()), ())) fun r1 => (Dt.ret (v.1, (!r1), v.2.1, v.2.2.1, v.2.2.2.1, v.2.2.2.2.1, v.2.2.2.2.2.1, v.2.2.2.2.2.2.1, v.2.2.2.2.2.2.2.1, v.2.2.2.2.2.2.2.2.1, v.2.2.2.2.2.2.2.2.2)))
theorem bracket_Set_g12 (C : bracket_Set_C) (v : bracket_Set_Y11) : treg tysT (orc (bracket_Set_tab C)) 126 (regO (bodyOf f31) 12) false [(3, .any), (5, (.box [.val Ri, .val Ri])), (6, (.box [.val Riii])), (7, .any), (10, (.box [.own Ri, .own Ri])), (13, .any), (16, (.box [.own Ri, .own Ri])), (70, .any)] (bracket_Set_S11 v) some = (bracket_Set_r12 C v).eval fun y => some (bracket_Set_S12 y) := by kernel_rfl
def bracket_Set_r13 (C : bracket_Set_C) (v : bracket_Set_Y12) : Dt bracket_Set_Y4 := (Dt.bnd (C.2.1 (((6:Int), ()), ())) fun r1 => (Dt.ret (r1.2.2.2, r1.1, r1.2.1, r1.2.2.1)))
theorem bracket_Set_g13 (C : bracket_Set_C) (v : bracket_Set_Y12) : treg tysT (orc (bracket_Set_tab C)) 126 (regO (bodyOf f31) 13) false [(10, (.box [.own Ri, .own Ri])), (11, (.own Ri)), (12, .any)] (bracket_Set_S12 v) some = (bracket_Set_r13 C v).eval fun y => some (bracket_Set_S4 y) := by kernel_rfl
abbrev bracket_Set_Y14 : Type := Int × Bool × List Di × List Di × List Diii × Int × Int × List Di × List Di × List Di × List Di
def bracket_Set_S14 (v : bracket_Set_Y14) : St := ⟨[(3, .int .i64 v.1), (5, .ptr 0 0), (6, .ptr 1 0), (7, .ptr 2 0), (10, .ptr 3 0), (13, .fn 73 []), (16, .ptr 6 0), (79, .bool v.2.1)], [.cells [.fz Ri v.2.2.1, .fz Ri v.2.2.2.1], .cells [.fz Riii v.2.2.2.2.1], .cells [.int .i64 v.2.2.2.2.2.1, .int .i64 v.2.2.2.2.2.2.1], .cells [.rs 4, .rs 5], .rows Ri v.2.2.2.2.2.2.2.1, .rows Ri v.2.2.2.2.2.2.2.2.1, .cells [.rs 7, .rs 8], .rows Ri v.2.2.2.2.2.2.2.2.2.1, .rows Ri v.2.2.2.2.2.2.2.2.2.2]⟩
def bracket_Set_r14 (C : bracket_Set_C) (v : bracket_Set_Y12) : Dt bracket_Set_Y14 := (Dt.bnd (C.2.2.2.2.2.1 ((v.2.2.2.2.2.2.2.2.2.1, ()), ())) fun r1 => (Dt.ret (v.1, (!r1), v.2.2.1, v.2.2.2.1, v.2.2.2.2.1, v.2.2.2.2.2.1, v.2.2.2.2.2.2.1, v.2.2.2.2.2.2.2.1, v.2.2.2.2.2.2.2.2.1, v.2.2.2.2.2.2.2.2.2.1, v.2.2.2.2.2.2.2.2.2.2)))
theorem bracket_Set_g14 (C : bracket_Set_C) (v : bracket_Set_Y12) : treg tysT (orc (bracket_Set_tab C)) 126 (regO (bodyOf f31) 14) false [(3, .any), (5, (.box [.val Ri, .val Ri])), (6, (.box [.val Riii])), (7, .any), (10, (.box [.own Ri, .own Ri])), (13, .any), (16, (.box [.own Ri, .own Ri])), (79, .any)] (bracket_Set_S12 v) some = (bracket_Set_r14 C v).eval fun y => some (bracket_Set_S14 y) := by kernel_rfl
def bracket_Set_r15 (C : bracket_Set_C) (v : bracket_Set_Y14) : Dt bracket_Set_Y4 := (Dt.bnd (C.2.1 (((14:Int), ()), ())) fun r1 => (Dt.ret (r1.2.2.2, r1.1, r1.2.1, r1.2.2.1)))
theorem bracket_Set_g15 (C : bracket_Set_C) (v : bracket_Set_Y14) : treg tysT (orc (bracket_Set_tab C)) 126 (regO (bodyOf f31) 15) false [(10, (.box [.own Ri, .own Ri])), (11, (.own Ri)), (12, .any)] (bracket_Set_S14 v) some = (bracket_Set_r15 C v).eval fun y => some (bracket_Set_S4 y) := by kernel_rfl
abbrev bracket_Set_Y16 : Type := Int × List Di × List Di × List Diii × Int × Int × List Di × List Di × List Di × List Di × List Di
def bracket_Set_S16 (v : bracket_Set_Y16) : St := ⟨[(3, .int .i64 v.1), (5, .ptr 0 0), (6, .ptr 1 0), (7, .ptr 2 0), (10, .ptr 3 0), (16, .ptr 6 0), (17, .ptr 9 0)], [.cells [.fz Ri v.2.1, .fz Ri v.2.2.1], .cells [.fz Riii v.2.2.2.1], .cells [.int .i64 v.2.2.2.2.1, .int .i64 v.2.2.2.2.2.1], .cells [.rs 4, .rs 5], .rows Ri v.2.2.2.2.2.2.1, .rows Ri v.2.2.2.2.2.2.2.1, .cells [.rs 7, .rs 8], .rows Ri v.2.2.2.2.2.2.2.2.1, .rows Ri v.2.2.2.2.2.2.2.2.2.1, .cells [.rs 10], .rows Ri v.2.2.2.2.2.2.2.2.2.2]⟩
def bracket_Set_r16 (C : bracket_Set_C) (v : bracket_Set_Y14) : Dt bracket_Set_Y16 := (Dt.ret (v.1, v.2.2.1, v.2.2.2.1, v.2.2.2.2.1, v.2.2.2.2.2.1, v.2.2.2.2.2.2.1, v.2.2.2.2.2.2.2.1, v.2.2.2.2.2.2.2.2.1, v.2.2.2.2.2.2.2.2.2.1, v.2.2.2.2.2.2.2.2.2.2, ([] : List Di)))
theorem bracket_Set_g16 (C : bracket_Set_C) (v : bracket_Set_Y14) : treg tysT (orc (bracket_Set_tab C)) 126 (regO (bodyOf f31) 16) false [(3, .any), (5, (.box [.val Ri, .val Ri])), (6, (.box [.val Riii])), (7, .any), (10, (.box [.own Ri, .own Ri])), (16, (.box [.own Ri, .own Ri])), (17, (.box [.own Ri]))] (bracket_Set_S14 v) some = (bracket_Set_r16 C v).eval fun y => some (bracket_Set_S16 y) := by kernel_rfl
abbrev bracket_Set_Y17 : Type := List Di × List Di × List Diii × Int × Int × List Di × List Di × List Di × List Di × List Di × Int
def bracket_Set_S17 (v : bracket_Set_Y17) : St := ⟨[(5, .ptr 0 0), (6, .ptr 1 0), (7, .ptr 2 0), (10, .ptr 3 0), (16, .ptr 6 0), (17, .ptr 9 0), (90, .fn 106 [.ptr 11 0])], [.cells [.fz Ri v.1, .fz Ri v.2.1], .cells [.fz Riii v.2.2.1], .cells [.int .i64 v.2.2.2.1, .int .i64 v.2.2.2.2.1], .cells [.rs 4, .rs 5], .rows Ri v.2.2.2.2.2.1, .rows Ri v.2.2.2.2.2.2.1, .cells [.rs 7, .rs 8], .rows Ri v.2.2.2.2.2.2.2.1, .rows Ri v.2.2.2.2.2.2.2.2.1, .cells [.rs 10], .rows Ri v.2.2.2.2.2.2.2.2.2.1, .cells [.int .i64 v.2.2.2.2.2.2.2.2.2.2]]⟩
def bracket_Set_r17 (C : bracket_Set_C) (v : bracket_Set_Y16) : Dt bracket_Set_Y17 := (Dt.bnd (C.2.2.2.2.2.2.1 (((IntKind.wrap .i64 ((List.length v.2.2.1 : Int) + v.1)), ()), ())) fun r1 => (Dt.ret (v.2.1, v.2.2.1, v.2.2.2.1, v.2.2.2.2.1, v.2.2.2.2.2.1, v.2.2.2.2.2.2.1, v.2.2.2.2.2.2.2.1, v.2.2.2.2.2.2.2.2.1, v.2.2.2.2.2.2.2.2.2.1, v.2.2.2.2.2.2.2.2.2.2, r1)))
theorem bracket_Set_g17 (C : bracket_Set_C) (v : bracket_Set_Y16) : treg tysT (orc (bracket_Set_tab C)) 126 (regO (bodyOf f31) 17) false [(5, (.box [.val Ri, .val Ri])), (6, (.box [.val Riii])), (7, .any), (10, (.box [.own Ri, .own Ri])), (16, (.box [.own Ri, .own Ri])), (17, (.box [.own Ri])), (90, .any)] (bracket_Set_S16 v) some = (bracket_Set_r17 C v).eval fun y => some (bracket_Set_S17 y) := by kernel_rfl
abbrev bracket_Set_Y19i : Type := Int × List Di × List Di × List Diii × Int × Int × List Di × List Di × List Di × List Di × List Di
def bracket_Set_S19i (v : bracket_Set_Y19i) : St := ⟨[(18, .int .i64 v.1), (5, .ptr 0 0), (6, .ptr 1 0), (7, .ptr 2 0), (10, .ptr 3 0), (16, .ptr 6 0), (17, .ptr 9 0)], [.cells [.fz Ri v.2.1, .fz Ri v.2.2.1], .cells [.fz Riii v.2.2.2.1], .cells [.int .i64 v.2.2.2.2.1, .int .i64 v.2.2.2.2.2.1], .cells [.rs 4, .rs 5], .rows Ri v.2.2.2.2.2.2.1, .rows Ri v.2.2.2.2.2.2.2.1, .cells [.rs 7, .rs 8], .rows Ri v.2.2.2.2.2.2.2.2.1, .rows Ri v.2.2.2.2.2.2.2.2.2.1, .cells [.rs 10], .rows Ri v.2.2.2.2.2.2.2.2.2.2]⟩
abbrev bracket_Set_Y19 : Type := Int × List Di × List Di × List Diii × Int × Int × List Di × List Di × List Di × List Di × List Di
def bracket_Set_S19 (v : bracket_Set_Y19) : St := ⟨[(5, .ptr 0 0), (6, .ptr 1 0), (7, .ptr 2 0), (10, .ptr 3 0), (16, .ptr 6 0), (17, .ptr 9 0), (18, .int .i64 v.1)], [.cells [.fz Ri v.2.1, .fz Ri v.2.2.1], .cells [.fz Riii v.2.2.2.1], .cells [.int .i64 v.2.2.2.2.1, .int .i64 v.2.2.2.2.2.1], .cells [.rs 4, .rs 5], .rows Ri v.2.2.2.2.2.2.1, .rows Ri v.2.2.2.2.2.2.2.1, .cells [.rs 7, .rs 8], .rows Ri v.2.2.2.2.2.2.2.2.1, .rows Ri v.2.2.2.2.2.2.2.2.2.1, .cells [.rs 10], .rows Ri v.2.2.2.2.2.2.2.2.2.2]⟩
def bracket_Set_r19 (C : bracket_Set_C) (v : bracket_Set_Y19i) : Dt bracket_Set_Y19 := (Dt.bnd (C.2.2.2.2.2.2.2.2.1 ((v.2.2.2.2.2.2.2.2.1, v.2.2.2.2.2.2.2.2.2.1, ()), ((IntKind.wrap .i64 ((IntKind.wrap .i64 ((2:Int) * v.1)) + (1:Int))), ()), ())) fun r1 => (Dt.bnd (C.2.2.2.2.2.2.2.2.1 ((v.2.2.2.2.2.2.2.2.1, v.2.2.2.2.2.2.2.2.2.1, ()), ((IntKind.wrap .i64 ((IntKind.wrap .i64 ((2:Int) * v.1)) + (2:Int))), ()), ())) fun r2 => (Dt.bnd (C.2.2.2.2.2.2.2.1 ((v.2.2.2.1, ()), (v.2.2.2.2.1, v.2.2.2.2.2.1, ()), (r1, ()), (r2, ()), ())) fun r3 => (Dt.ite (inB v.1 (List.length v.2.2.2.2.2.2.2.2.2.1)) (Dt.ret (v.1, v.2.1, v.2.2.1, v.2.2.2.1, v.2.2.2.2.1, v.2.2.2.2.2.1, v.2.2.2.2.2.2.1, v.2.2.2.2.2.2.2.1, v.2.2.2.2.2.2.2.2.1, (List.set v.2.2.2.2.2.2.2.2.2.1 (v.1).toNat (r3, ())), v.2.2.2.2.2.2.2.2.2.2)) Dt.fail))))
theorem bracket_Set_g19 (C : bracket_Set_C) (v : bracket_Set_Y19i) : treg tysT (orc (bracket_Set_tab C)) 126 (regO (bodyOf f31) 19) true [(5, (.box [.val Ri, .val Ri])), (6, (.box [.val Riii])), (7, .any), (10, (.box [.own Ri, .own Ri])), (16, (.box [.own Ri, .own Ri])), (17, (.box [.own Ri])), (18, .any)] (bracket_Set_S19i v) some = (bracket_Set_r19 C v).eval fun y => some (bracket_Set_S19 y) := by kernel_rfl
abbrev bracket_Set_Y20 : Type := Int × Bool × List Di × List Di × List Diii × Int × Int × List Di × List Di × List Di × List Di × List Di
def bracket_Set_S20 (v : bracket_Set_Y20) : St := ⟨[(5, .ptr 0 0), (6, .ptr 1 0), (7, .ptr 2 0), (10, .ptr 3 0), (16, .ptr 6 0), (17, .ptr 9 0), (18, .int .i64 v.1), (119, .bool v.2.1)], [.cells [.fz Ri v.2.2.1, .fz Ri v.2.2.2.1], .cells [.fz Riii v.2.2.2.2.1], .cells [.int .i64 v.2.2.2.2.2.1, .int .i64 v.2.2.2.2.2.2.1], .cells [.rs 4, .rs 5], .rows Ri v.2.2.2.2.2.2.2.1, .rows Ri v.2.2.2.2.2.2.2.2.1, .cells [.rs 7, .rs 8], .rows Ri v.2.2.2.2.2.2.2.2.2.1, .rows Ri v.2.2.2.2.2.2.2.2.2.2.1, .cells [.rs 10], .rows Ri v.2.2.2.2.2.2.2.2.2.2.2]⟩
def bracket_Set_r20 (C : bracket_Set_C) (v : bracket_Set_Y19) : Dt bracket_Set_Y20 := (Dt.ite (inB v.1 (List.length v.2.2.2.2.2.2.2.2.2.1)) (Dt.ite (inB v.1 (List.length v.2.2.1)) (Dt.ret (v.1, ((elt zi v.2.2.2.2.2.2.2.2.2.1 (v.1).toNat).1 != (elt zi v.2.2.1 (v.1).toNat).1), v.2.1, v.2.2.1, v.2.2.2.1, v.2.2.2.2.1, v.2.2.2.2.2.1, v.2.2.2.2.2.2.1, v.2.2.2.2.2.2.2.1, v.2.2.2.2.2.2.2.2.1, v.2.2.2.2.2.2.2.2.2.1, v.2.2.2.2.2.2.2.2.2.2)) Dt.fail) Dt.fail)
theorem bracket_Set_g20 (C : bracket_Set_C) (v : bracket_Set_Y19) : treg tysT (orc (bracket_Set_tab C)) 126 (regO (bodyOf f31) 20) true [(5, (.box [.val Ri, .val Ri])), (6, (.box [.val Riii])), (7, .any), (10, (.box [.own Ri, .own Ri])), (16, (.box [.own Ri, .own Ri])), (17, (.box [.own Ri])), (18, .any), (119, .any)] (bracket_Set_S19 v) some = (bracket_Set_r20 C v).eval fun y => some (bracket_Set_S20 y) := by kernel_rfl
abbrev bracket_Set_Y21 : Type := List Di × List Di × List Diii × Int × Int × List Di × List Di × List Di × List Di × List Di
def bracket_Set_S21 (v : bracket_Set_Y21) : St := ⟨[(5, .ptr 0 0), (6, .ptr 1 0), (7, .ptr 2 0), (10, .ptr 3 0), (16, .ptr 6 0), (17, .ptr 9 0)], [.cells [.fz Ri v.1, .fz Ri v.2.1], .cells [.fz Riii v.2.2.1], .cells [.int .i64 v.2.2.2.1, .int .i64 v.2.2.2.2.1], .cells [.rs 4, .rs 5], .rows Ri v.2.2.2.2.2.1, .rows Ri v.2.2.2.2.2.2.1, .cells [.rs 7, .rs 8], .rows Ri v.2.2.2.2.2.2.2.1, .rows Ri v.2.2.2.2.2.2.2.2.1, .cells [.rs 10], .rows Ri v.2.2.2.2.2.2.2.2.2]⟩
def bracket_Set_r21 (C : bracket_Set_C) (v : bracket_Set_Y20) : Dt bracket_Set_Y21 := (Dt.ite (apB (List.length v.2.2.2.2.2.2.2.2.2.2.2) (List.length ([(v.1, ())] : List Di))) (Dt.ret (v.2.2.1, v.2.2.2.1, v.2.2.2.2.1, v.2.2.2.2.2.1, v.2.2.2.2.2.2.1, v.2.2.2.2.2.2.2.1, v.2.2.2.2.2.2.2.2.1, v.2.2.2.2.2.2.2.2.2.1, v.2.2.2.2.2.2.2.2.2.2.1, (v.2.2.2.2.2.2.2.2.2.2.2 ++ ([(v.1, ())] : List Di)))) Dt.fail)
theorem bracket_Set_g21 (C : bracket_Set_C) (v : bracket_Set_Y20) : treg tysT (orc (bracket_Set_tab C)) 126 (regO (bodyOf f31) 21) false [(5, (.box [.val Ri, .val Ri])), (6, (.box [.val Riii])), (7, .any), (10, (.box [.own Ri, .own Ri])), (16, (.box [.own Ri, .own Ri])), (17, (.box [.own Ri]))] (bracket_Set_S20 v) some = (bracket_Set_r21 C v).eval fun y => some (bracket_Set_S21 y) := by kernel_rfl
def bracket_Set_B1 (d : Nat) (x : Int) (y : List Di × List Di × List Diii × Int × Int × List Di × List Di × List Di × List Di × List Di) : Option (List Di × List Di × List Diii × Int × Int × List Di × List Di × List Di × List Di × List Di) :=
  (bracket_Set_r19 (bracket_Set_K d) (x, y.1, y.2.1, y.2.2.1, y.2.2.2.1, y.2.2.2.2.1, y.2.2.2.2.2.1, y.2.2.2.2.2.2.1, y.2.2.2.2.2.2.2.1, y.2.2.2.2.2.2.2.2.1, y.2.2.2.2.2.2.2.2.2)).eval fun y19 =>
  (bracket_Set_r20 (bracket_Set_K d) y19).eval fun y20 =>
  bif y20.2.1 then ((bracket_Set_r21 (bracket_Set_K d) y20).eval fun y21 =>
  some y21) else (some y20.2.2)
def bracket_Set_r22 (C : bracket_Set_C) (v : bracket_Set_Y21) : Dt bracket_Set_Y4 := (Dt.ret ((0:Int), v.2.2.2.2.2.2.2.1, v.2.2.2.2.2.2.2.2.1, v.2.2.2.2.2.2.2.2.2))
theorem bracket_Set_g22 (C : bracket_Set_C) (v : bracket_Set_Y21) : treg tysT (orc (bracket_Set_tab C)) 126 (regO (bodyOf f31) 22) true [(10, (.box [.own Ri, .own Ri])), (11, (.own Ri)), (12, .any)] (bracket_Set_S21 v) some = (bracket_Set_r22 C v).eval fun y => some (bracket_Set_S4 y) := by kernel_rfl
def F_bracket_Set (d : Nat) (x : bracket_Set_X) : Option bracket_Set_R :=
  (bracket_Set_r0 (bracket_Set_K d) (x.1.1, x.1.2.1, x.2.1.1, x.2.2.1.1, x.2.2.1.2.1, x.2.2.2.1.1, x.2.2.2.2.1.1)).eval fun y0 =>
  (bracket_Set_r1 (bracket_Set_K d) y0).eval fun y1 =>
  (bracket_Set_r2 (bracket_Set_K d) y1).eval fun y2 =>
  (bracket_Set_r3 (bracket_Set_K d) y2).eval fun y3 =>
  bif y3.2.2.2.1 then ((bracket_Set_r4 (bracket_Set_K d) y3).eval fun y4 =>
  some (y4.2.1, y4.2.2.1, y4.2.2.2, y4.1)) else ((bracket_Set_r5 (bracket_Set_K d) y3).eval fun y5 =>
  (bracket_Set_r6 (bracket_Set_K d) y5).eval fun y6 =>
  bif y6.2.2.2.1 then ((bracket_Set_r7 (bracket_Set_K d) y6).eval fun y7 =>
  some (y7.2.1, y7.2.2.1, y7.2.2.2, y7.1)) else ((bracket_Set_r8 (bracket_Set_K d) y6).eval fun y8 =>
  bif y8.2.2.1 then ((bracket_Set_r9 (bracket_Set_K d) y8).eval fun y9 =>
  some (y9.2.1, y9.2.2.1, y9.2.2.2, y9.1)) else ((bracket_Set_r10 (bracket_Set_K d) y8).eval fun y10 =>
  (bracket_Set_r11 (bracket_Set_K d) y10).eval fun y11 =>
  (bracket_Set_r12 (bracket_Set_K d) y11).eval fun y12 =>
  bif y12.2.1 then ((bracket_Set_r13 (bracket_Set_K d) y12).eval fun y13 =>
  some (y13.2.1, y13.2.2.1, y13.2.2.2, y13.1)) else ((bracket_Set_r14 (bracket_Set_K d) y12).eval fun y14 =>
  bif y14.2.1 then ((bracket_Set_r15 (bracket_Set_K d) y14).eval fun y15 =>
  some (y15.2.1, y15.2.2.1, y15.2.2.2, y15.1)) else ((bracket_Set_r16 (bracket_Set_K d) y14).eval fun y16 =>
  (bracket_Set_r17 (bracket_Set_K d) y16).eval fun y17 =>
  bif upB y17.2.2.2.2.2.2.2.2.2.2 then Option.bind (loopF (bracket_Set_B1 d) (Go.Pel.wayI (y17.2.2.2.2.2.2.2.2.2.2).toNat) (y17.1, y17.2.1, y17.2.2.1, y17.2.2.2.1, y17.2.2.2.2.1, y17.2.2.2.2.2.1, y17.2.2.2.2.2.2.1, y17.2.2.2.2.2.2.2.1, y17.2.2.2.2.2.2.2.2.1, y17.2.2.2.2.2.2.2.2.2.1)) fun z1 =>
  ((bracket_Set_r22 (bracket_Set_K d) z1).eval fun y22 =>
  some (y22.2.1, y22.2.2.1, y22.2.2.2, y22.1)) else none)))))
theorem bracket_Set_cok (d : Nat) : COK prog (bracket_Set_sp (F_bracket_Set d)) := by
  have hm : prog.follows .mixedOrders = true := mixed
  have hT := tys
  have hC : OrcOK prog (orc (bracket_Set_tab (bracket_Set_K d))) := orc_ok (by
    intro S hS
    simp only [bracket_Set_tab, List.mem_cons, List.not_mem_nil, or_false] at hS
    rcases hS with rfl | rfl | rfl | rfl | rfl | rfl | rfl | rfl | rfl
    · exact bracket_Check_cok d
    · exact bracket_Set_1_cok d
    · exact bracket_timed_cok d
    · exact slices_Clone_int_int_cok d
    · exact bracket_known_cok d
    · exact bracket_once_cok d
    · exact bracket_up_cok d
    · exact bracket_won_cok d
    · exact bracket_node_cok d)
  refine cok_marks (c := bodyOf f31) (fn := f31) hT (by kernel_rfl) (by kernel_rfl) (by decide) fun x r h w0 φ0 Q hend => ?_
  replace h : F_bracket_Set d x = some r := h
  unfold F_bracket_Set at h
  show Run prog w0 φ0 126 (bodyOf f31) ⟨[(0, .agg [.fz Ri x.1.1, .fz Ri x.1.2.1]), (1, .agg [.fz Riii x.2.1.1]), (2, .agg [.int .i64 x.2.2.1.1, .int .i64 x.2.2.1.2.1]), (3, .int .i64 x.2.2.2.1.1), (4, .int .i64 x.2.2.2.2.1.1)], []⟩ Q
  refine run_seq ?_
  refine run_reg hm hT hC (bracket_Set_g0 (bracket_Set_K d) (x.1.1, x.1.2.1, x.2.1.1, x.2.2.1.1, x.2.2.1.2.1, x.2.2.2.1.1, x.2.2.2.2.1.1)) h ?_
  intro y0 h
  refine cn_then ?_
  refine run_seq ?_
  refine run_reg hm hT hC (bracket_Set_g1 (bracket_Set_K d) y0) h ?_
  intro y1 h
  refine cn_then ?_
  refine run_seq ?_
  refine run_seq ?_
  refine run_reg hm hT hC (bracket_Set_g2 (bracket_Set_K d) y1) h ?_
  intro y2 h
  refine cn_then ?_
  refine run_seq ?_
  refine run_reg hm hT hC (bracket_Set_g3 (bracket_Set_K d) y2) h ?_
  intro y3 h
  refine cn_then ?_
  refine run_cond (v := y3.2.2.2.1) (by kernel_rfl) h ?_ ?_
  ·
    intro h
    refine run_seq ?_
    refine run_reg hm hT hC (bracket_Set_g4 (bracket_Set_K d) y3) h ?_
    intro y4 h
    refine cn_then ?_
    refine run_ret ?_
    refine cn_then_ret ?_
    cases h
    exact (hend.1 _ (by kernel_rfl)).2
  ·
    intro h
    refine run_skip ?_
    refine cn_then ?_
    refine run_seq ?_
    refine run_seq ?_
    refine run_reg hm hT hC (bracket_Set_g5 (bracket_Set_K d) y3) h ?_
    intro y5 h
    refine cn_then ?_
    refine run_seq ?_
    refine run_reg hm hT hC (bracket_Set_g6 (bracket_Set_K d) y5) h ?_
    intro y6 h
    refine cn_then ?_
    refine run_cond (v := y6.2.2.2.1) (by kernel_rfl) h ?_ ?_
    ·
      intro h
      refine run_seq ?_
      refine run_reg hm hT hC (bracket_Set_g7 (bracket_Set_K d) y6) h ?_
      intro y7 h
      refine cn_then ?_
      refine run_ret ?_
      refine cn_then_ret ?_
      cases h
      exact (hend.1 _ (by kernel_rfl)).2
    ·
      intro h
      refine run_skip ?_
      refine cn_then ?_
      refine run_seq ?_
      refine run_seq ?_
      refine run_reg hm hT hC (bracket_Set_g8 (bracket_Set_K d) y6) h ?_
      intro y8 h
      refine cn_then ?_
      refine run_cond (v := y8.2.2.1) (by kernel_rfl) h ?_ ?_
      ·
        intro h
        refine run_seq ?_
        refine run_reg hm hT hC (bracket_Set_g9 (bracket_Set_K d) y8) h ?_
        intro y9 h
        refine cn_then ?_
        refine run_ret ?_
        refine cn_then_ret ?_
        cases h
        exact (hend.1 _ (by kernel_rfl)).2
      ·
        intro h
        refine run_skip ?_
        refine cn_then ?_
        refine run_seq ?_
        refine run_reg hm hT hC (bracket_Set_g10 (bracket_Set_K d) y8) h ?_
        intro y10 h
        refine cn_then ?_
        refine run_seq ?_
        refine run_reg hm hT hC (bracket_Set_g11 (bracket_Set_K d) y10) h ?_
        intro y11 h
        refine cn_then ?_
        refine run_seq ?_
        refine run_seq ?_
        refine run_reg hm hT hC (bracket_Set_g12 (bracket_Set_K d) y11) h ?_
        intro y12 h
        refine cn_then ?_
        refine run_cond (v := y12.2.1) (by kernel_rfl) h ?_ ?_
        ·
          intro h
          refine run_seq ?_
          refine run_reg hm hT hC (bracket_Set_g13 (bracket_Set_K d) y12) h ?_
          intro y13 h
          refine cn_then ?_
          refine run_ret ?_
          refine cn_then_ret ?_
          cases h
          exact (hend.1 _ (by kernel_rfl)).2
        ·
          intro h
          refine run_skip ?_
          refine cn_then ?_
          refine run_seq ?_
          refine run_seq ?_
          refine run_reg hm hT hC (bracket_Set_g14 (bracket_Set_K d) y12) h ?_
          intro y14 h
          refine cn_then ?_
          refine run_cond (v := y14.2.1) (by kernel_rfl) h ?_ ?_
          ·
            intro h
            refine run_seq ?_
            refine run_reg hm hT hC (bracket_Set_g15 (bracket_Set_K d) y14) h ?_
            intro y15 h
            refine cn_then ?_
            refine run_ret ?_
            refine cn_then_ret ?_
            cases h
            exact (hend.1 _ (by kernel_rfl)).2
          ·
            intro h
            refine run_skip ?_
            refine cn_then ?_
            refine run_seq ?_
            refine run_reg hm hT hC (bracket_Set_g16 (bracket_Set_K d) y14) h ?_
            intro y16 h
            refine cn_then ?_
            refine run_seq ?_
            refine run_seq ?_
            refine run_reg hm hT hC (bracket_Set_g17 (bracket_Set_K d) y16) h ?_
            intro y17 h
            refine cn_then ?_
            refine run_block ?_
            obtain ⟨hg1, h⟩ := bif_none h
            obtain ⟨z1, hz1, h⟩ := Option.bind_eq_some_iff.1 h
            refine run_range (b0 := 11) (α := Int) (X := List Di × List Di × List Diii × Int × Int × List Di × List Di × List Di × List Di × List Di) (encs := fun x => #[.int .i64 x]) (xs := (Go.Pel.wayI (y17.2.2.2.2.2.2.2.2.2.2).toNat)) (step := bracket_Set_B1 d) (x0 := (y17.1, y17.2.1, y17.2.2.1, y17.2.2.2.1, y17.2.2.2.2.1, y17.2.2.2.2.2.1, y17.2.2.2.2.2.2.1, y17.2.2.2.2.2.2.2.1, y17.2.2.2.2.2.2.2.2.1, y17.2.2.2.2.2.2.2.2.2.1)) (z := z1) (tmE := fun y => [(5, .ptr 0 0), (6, .ptr 1 0), (7, .ptr 2 0), (10, .ptr 3 0), (16, .ptr 6 0), (17, .ptr 9 0)]) (keys := [5, 6, 7, 10, 16, 17]) (obs := fun y => [.cells [.fz Ri y.1, .fz Ri y.2.1], .cells [.fz Riii y.2.2.1], .cells [.int .i64 y.2.2.2.1, .int .i64 y.2.2.2.2.1], .cells [.rs 4, .rs 5], .rows Ri y.2.2.2.2.2.1, .rows Ri y.2.2.2.2.2.2.1, .cells [.rs 7, .rs 8], .rows Ri y.2.2.2.2.2.2.2.1, .rows Ri y.2.2.2.2.2.2.2.2.1, .cells [.rs 10], .rows Ri y.2.2.2.2.2.2.2.2.2]) (xt := fun x => [(18, .int .i64 x)]) (ks := [90]) (fun y n l h => keys_at (k := [5, 6, 7, 10, 16, 17]) (tm := [(5, .ptr 0 0), (6, .ptr 1 0), (7, .ptr 2 0), (10, .ptr 3 0), (16, .ptr 6 0), (17, .ptr 9 0)]) rfl h) (by kernel_rfl) (by kernel_rfl) rfl (by kernel_rfl) (by kernel_rfl) (enters_of Try.func106 (by kernel_rfl) rfl) (up1_iterI hg1) (fun _ => rfl) (fun a x => { tmps := ((a.tmps.setIfInBounds 91 (.int .i64 x)).setIfInBounds 18 (.int .i64 x)), defers := [] }) (fun a x hN => ⟨by simpa using hN, rfl, fun n l hn => ?xt1, fun n hn => ?kp1⟩) (fun a l x W K hN hK => ?as1) (fun l V φ2 Q2 x y y2 h hD hV hend => ?bd1) hz1 (fun φ1 hl1 => ?rs1)
            case xt1 =>
              simp only [List.mem_cons, List.not_mem_nil, or_false, Prod.mk.injEq] at hn
              obtain ⟨rfl, rfl⟩ := hn
              · exact ⟨_, sib_self (by simp only [Array.size_setIfInBounds]; omega), fun η => .int _ _⟩
            case kp1 =>
              simp only [List.mem_cons, List.not_mem_nil, or_false] at hn
              rcases hn with rfl | rfl | rfl | rfl | rfl | rfl
              all_goals exact (sib_ne rfl).trans ((sib_ne rfl))
            case as1 =>
              exact assign1 rfl rfl rfl (by omega) hK
            case bd1 =>
              unfold bracket_Set_B1 at h
              show RunI l prog V w0 φ2 126 _ ⟨[(18, .int .i64 x), (5, .ptr 0 0), (6, .ptr 1 0), (7, .ptr 2 0), (10, .ptr 3 0), (16, .ptr 6 0), (17, .ptr 9 0)], [.cells [.fz Ri y.1, .fz Ri y.2.1], .cells [.fz Riii y.2.2.1], .cells [.int .i64 y.2.2.2.1, .int .i64 y.2.2.2.2.1], .cells [.rs 4, .rs 5], .rows Ri y.2.2.2.2.2.1, .rows Ri y.2.2.2.2.2.2.1, .cells [.rs 7, .rs 8], .rows Ri y.2.2.2.2.2.2.2.1, .rows Ri y.2.2.2.2.2.2.2.2.1, .cells [.rs 10], .rows Ri y.2.2.2.2.2.2.2.2.2]⟩ Q2
              refine runI_block ?_
              refine runI_seq ?_
              refine runI_reg hm hT hC hV (by kernel_rfl) (by kernel_rfl) (bracket_Set_g19 (bracket_Set_K d) (x, y.1, y.2.1, y.2.2.1, y.2.2.2.1, y.2.2.2.2.1, y.2.2.2.2.2.1, y.2.2.2.2.2.2.1, y.2.2.2.2.2.2.2.1, y.2.2.2.2.2.2.2.2.1, y.2.2.2.2.2.2.2.2.2)) h ?_
              intro y19 h
              refine cnI_then ?_
              refine runI_seq ?_
              refine runI_reg hm hT hC hV (by kernel_rfl) (by kernel_rfl) (bracket_Set_g20 (bracket_Set_K d) y19) h ?_
              intro y20 h
              refine cnI_then ?_
              refine runI_cond (v := y20.2.1) (by kernel_rfl) h ?_ ?_
              ·
                intro h
                refine runI_reg hm hT hC hV (by kernel_rfl) (by kernel_rfl) (bracket_Set_g21 (bracket_Set_K d) y20) h ?_
                intro y21 h
                refine cnI_blk ?_
                cases h
                exact hend
              ·
                intro h
                refine runI_skip ?_
                refine cnI_blk ?_
                refine cnI_num (s := ⟨[(5, .ptr 0 0), (6, .ptr 1 0), (7, .ptr 2 0), (10, .ptr 3 0), (16, .ptr 6 0), (17, .ptr 9 0)], [.cells [.fz Ri y20.2.2.1, .fz Ri y20.2.2.2.1], .cells [.fz Riii y20.2.2.2.2.1], .cells [.int .i64 y20.2.2.2.2.2.1, .int .i64 y20.2.2.2.2.2.2.1], .cells [.rs 4, .rs 5], .rows Ri y20.2.2.2.2.2.2.2.1, .rows Ri y20.2.2.2.2.2.2.2.2.1, .cells [.rs 7, .rs 8], .rows Ri y20.2.2.2.2.2.2.2.2.2.1, .rows Ri y20.2.2.2.2.2.2.2.2.2.2.1, .cells [.rs 10], .rows Ri y20.2.2.2.2.2.2.2.2.2.2.2]⟩) [18, 119] (by kernel_rfl) ?_
                cases h
                exact hend
            case rs1 =>
              refine cn_blk ?_
              refine cn_then ?_
              refine run_seq ?_
              refine run_reg hm hT hC (bracket_Set_g22 (bracket_Set_K d) z1) h ?_
              intro y22 h
              refine cn_then ?_
              refine run_ret ?_
              cases h
              exact (hend.2 _ hl1 _ (by kernel_rfl)).2
end Go.Proofs.Ytkcpnclgcmnlcaa

namespace Go.Proofs.Ytkcpnclgcmnlcaa
open Go Go.Tx Go.Pel Go.Proofs.Try
theorem bnode_eq (d : Nat) (P W : List Int) (i : Nat) (hi : i < W.length + P.length) (hP : P.length ≤ 1000) (hW : W.length ≤ 1000) : F_bracket_node d ((unI P, unI W, ()), ((i : Int), ()), ()) = some (nodeV P W i) := by
  have e1 : IntKind.wrap .i64 ((i : Int) - ((unI W).length : Int)) = (i : Int) - (W.length : Int) := by rw [unI_len]; exact wr64 (by omega) (by omega)
  by_cases h : i < W.length
  · have h1 : decide ((i : Int) - (W.length : Int) ≥ (0 : Int)) = false := decide_eq_false (by omega)
    have h2 : inB (i : Int) (unI W).length = true := inB_t (by omega) (by rw [unI_len]; omega)
    simp only [F_bracket_node, bracket_node_r0, bracket_node_r1, bracket_node_r2, bracket_node_r4, Dt.eval, e1, h1, h2, cond_true, cond_false, Int.toNat_natCast, elt_unI, bracket_node_K]
    unfold nodeV; rw [if_pos h]
  · have h1 : decide ((i : Int) - (W.length : Int) ≥ (0 : Int)) = true := decide_eq_true (by omega)
    have h2 : inB ((i : Int) - (W.length : Int)) (unI P).length = true := inB_t (by omega) (by rw [unI_len]; omega)
    have h3 : ((i : Int) - (W.length : Int)).toNat = i - W.length := by omega
    simp only [F_bracket_node, bracket_node_r0, bracket_node_r1, bracket_node_r2, bracket_node_r3, Dt.eval, e1, h1, h2, h3, cond_true, cond_false, elt_unI, bracket_node_K]
    unfold nodeV; rw [if_neg h]
theorem ok_or {l : List Pt} {x : Int} (h : Ok l x) : (decide (x < 0) || hasB l x) = true ∧ (decide (x = -1) || hasB l x) = true := by
  rcases h with rfl | h
  · exact ⟨rfl, rfl⟩
  · simp [h]
theorem bwon_eq (d : Nat) (l : List Pt) (n m x y : Int) (hN : i64B n = true) (hD : i64B m = true) (ht : timed l n m = 0) (hx : Ok l x) (hy : Ok l y) : F_bracket_won d ((toPs l, ()), (n, m, ()), (x, ()), (y, ()), ()) = some (wonV l n m x y) := by
  rw [F_bracket_won_eq _ _ (by unfold bracket_won_if; simp only [ptsL_toP, hN, hD, ht, decide_true, (ok_or hx).1, (ok_or hy).1, Bool.and_self])]; simp only [ptsL_toP]
section
variable {l : List Pt} {n m : Int} {P W P0 W0 O : List Int}
/-- one round -/
theorem bset_round (d : Nat) {k : Nat} (q1 q2 : List Di) (hN : i64B n = true) (hD : i64B m = true) (ht : timed l n m = 0) (hP : P.length ≤ 1000) (hl : W.length + 1 = P.length) (hl0 : W0.length = W.length) (hk : k < W.length) (hO : O.length ≤ 1000) (hx : Ok l (nodeV P W (2 * k + 1))) (hy : Ok l (nodeV P W (2 * k + 2))) :
    bracket_Set_B1 d (k : Int) (unI P0, unI W0, toPs l, n, m, q1, q2, unI P, unI W, unI O) = some (unI P0, unI W0, toPs l, n, m, q1, q2, unI P, unI (setStep l n m P W0 (W, O) k).1, unI (setStep l n m P W0 (W, O) k).2) := by
  have e1 : IntKind.wrap .i64 ((2 : Int) * (k : Int)) = 2 * (k : Int) := wr64 (by omega) (by omega)
  have e2 : IntKind.wrap .i64 (2 * (k : Int) + (1 : Int)) = ((2 * k + 1 : Nat) : Int) := by rw [wr64 (by omega) (by omega)]; omega
  have e3 : IntKind.wrap .i64 (2 * (k : Int) + (2 : Int)) = ((2 * k + 2 : Nat) : Int) := by rw [wr64 (by omega) (by omega)]; omega
  have n1 := bnode_eq d P W (2 * k + 1) (by omega) hP (by omega)
  have n2 := bnode_eq d P W (2 * k + 2) (by omega) hP (by omega)
  have w1 := bwon_eq d l n m _ _ hN hD ht hx hy
  have b1 : inB (k : Int) (unI W).length = true := inB_t (by omega) (by rw [unI_len]; omega)
  have b2 : ∀ v, inB (k : Int) (unI (W.set k v)).length = true := fun v => inB_t (by omega) (by rw [unI_len, List.length_set]; omega)
  have b3 : inB (k : Int) (unI W0).length = true := inB_t (by omega) (by rw [unI_len]; omega)
  have b4 : apB (unI O).length ([((k : Int), ())] : List Di).length = true := apB_t (by rw [unI_len]; simp; omega)
  have g1 : (W.set k (wonV l n m (nodeV P W (2 * k + 1)) (nodeV P W (2 * k + 2)))).getD k 0 = wonV l n m (nodeV P W (2 * k + 1)) (nodeV P W (2 * k + 2)) := by rw [getD_set hk, if_pos rfl]
  simp only [bracket_Set_B1, bracket_Set_r19, bracket_Set_r20, Dt.eval, e1, e2, e3, n1, n2, w1, b1, b2, b3, cond_true, Int.toNat_natCast, set_unI, elt_unI, g1, bracket_Set_K]
  unfold setStep
  simp only [Int.toNat_natCast]
  show _ = some (unI P0, unI W0, toPs l, n, m, q1, q2, unI P, unI (W.set k (wonV l n m (nodeV P W (2 * k + 1)) (nodeV P W (2 * k + 2)))), unI (if wonV l n m (nodeV P W (2 * k + 1)) (nodeV P W (2 * k + 2)) = W0.getD k 0 then O else O ++ [(k : Int)]))
  by_cases hc : wonV l n m (nodeV P W (2 * k + 1)) (nodeV P W (2 * k + 2)) = W0.getD k 0
  · rw [if_pos hc, show (wonV l n m (nodeV P W (2 * k + 1)) (nodeV P W (2 * k + 2)) != W0.getD k 0) = false by rw [hc]; exact bne_self_eq_false ..]
    simp only [cond_false]
  · rw [if_neg hc, show (wonV l n m (nodeV P W (2 * k + 1)) (nodeV P W (2 * k + 2)) != W0.getD k 0) = true from bne_iff_ne.2 hc]
    simp only [cond_true, bracket_Set_r21, Dt.eval, b4, app_unI, bracket_Set_K]
theorem bset_loop (d : Nat) (q1 q2 : List Di) (hN : i64B n = true) (hD : i64B m = true) (ht : timed l n m = 0) (hP : P.length ≤ 1000) : ∀ (i : Nat) (W O : List Int), W.length + 1 = P.length → W0.length = W.length → i < W.length + P.length → O.length + i ≤ 1000 → OkBut l P W i →
    loopF (bracket_Set_B1 d) (wayI i) (unI P0, unI W0, toPs l, n, m, q1, q2, unI P, unI W, unI O) = some (unI P0, unI W0, toPs l, n, m, q1, q2, unI P, unI (setR l n m P W0 i (W, O)).1, unI (setR l n m P W0 i (W, O)).2) := by
  intro i
  induction i using Nat.strongRecOn with
  | _ i ih =>
    intro W O hl hl0 hi hO hok
    cases i with
    | zero => rw [wayI_zero, setR_zero]; rfl
    | succ i =>
      have hk : i / 2 < W.length := by omega
      obtain ⟨h1, h2, h3⟩ := okBut_step (n := n) (d := m) hl hk hok
      rw [wayI_succ, setR_succ, loopF, bset_round d q1 q2 hN hD ht hP hl hl0 hk (by omega) h1 h2]
      have hs : (setStep l n m P W0 (W, O) ((i / 2 : Nat) : Int)).1 = W.set (i / 2) (downV l n m P W (i / 2)) := by unfold setStep; simp only [Int.toNat_natCast]
      have hs2 : (setStep l n m P W0 (W, O) ((i / 2 : Nat) : Int)).2.length ≤ O.length + 1 := by unfold setStep; simp only; split <;> simp
      have := ih (i / 2) (by omega) (setStep l n m P W0 (W, O) ((i / 2 : Nat) : Int)).1 (setStep l n m P W0 (W, O) ((i / 2 : Nat) : Int)).2 (by rw [hs, List.length_set]; exact hl) (by rw [hs, List.length_set]; exact hl0) (by rw [hs, List.length_set]; omega) (by omega) (by rw [hs]; exact h3)
      exact this
end
theorem bfail_eq (d : Nat) (e : Int) : F_bracket_Set_1 d ((e, ()), ()) = some ([], [], [], e) := rfl
theorem all64B_set {l : List Int} (h : all64B l = true) {i : Int} (hi : i64B i = true) (k : Nat) : all64B (l.set k i) = true := by
  unfold all64B at *
  rw [List.all_eq_true] at *
  intro x hx
  rcases List.mem_or_eq_of_mem_set hx with h1 | h1
  · exact h x h1
  · rw [h1]; exact hi
theorem ne0_t {x : Int} (h : x ≠ 0) : (x != (0 : Int)) = true := bne_iff_ne.2 h
theorem ne0_f {x : Int} (h : x = 0) : (x != (0 : Int)) = false := by rw [h]; rfl
set_option maxHeartbeats 4000000 in
theorem bset_eq (d : Nat) (l : List Pt) (n m : Int) (P W : List Int) (k id : Int) (hN : i64B n = true) (hD : i64B m = true) (hP : all64B P = true) (hI : i64B id = true) (hlP : P.length ≤ 100) (hlW : W.length ≤ 100) :
    F_bracket_Set d ((unI P, unI W, ()), (toPs l, ()), (n, m, ()), (k, ()), (id, ()), ()) = some (unI (brSet l n m P W k id).1, unI (brSet l n m P W k id).2.1, unI (brSet l n m P W k id).2.2.1, (brSet l n m P W k id).2.2.2) := by
  have e1 : F_bracket_Check d ((unI P, unI W, ()), ()) = some (brChk P W) := by
    rw [F_bracket_Check_eq _ _ (by unfold bracket_Check_if; simp only [idsI_unI, hP, Bool.and_true, Bool.and_eq_true, decide_eq_true_eq]; omega)]; simp only [idsI_unI]
  have e2 : F_bracket_timed d ((toPs l, ()), (n, m, ()), ()) = some (timed l n m) := by
    rw [F_bracket_timed_eq _ _ (by unfold bracket_timed_if; simp only [hN, hD, Bool.and_self])]; simp only [ptsL_toP]
  have e3 := bfail_eq d
  unfold brSet
  by_cases h1 : brChk P W = 0
  case neg =>
    have h2 : brChk P W = 8 := (brChk_cases P W).resolve_left h1
    rw [if_pos h1]
    simp only [F_bracket_Set, bracket_Set_r0, bracket_Set_r1, bracket_Set_r2, bracket_Set_r3, bracket_Set_r4, Dt.eval, e1, h2, ne0_t (show (8 : Int) ≠ 0 by decide), cond_true, e3, bracket_Set_K]; rfl
  rw [if_neg (fun h => h h1)]
  by_cases h2 : timed l n m = 0
  case neg =>
    rw [if_pos h2]
    simp only [F_bracket_Set, bracket_Set_r0, bracket_Set_r1, bracket_Set_r2, bracket_Set_r3, bracket_Set_r5, bracket_Set_r6, bracket_Set_r7, Dt.eval, e1, e2, ne0_f h1, ne0_t h2, cond_true, cond_false, e3, bracket_Set_K]; rfl
  rw [if_neg (fun h => h h2)]
  obtain ⟨s1, s2, s3⟩ := brChk_zero h1
  obtain ⟨p1, p2, p3, p4⟩ := shape_parts s1
  obtain ⟨f1, _, f3⟩ := fieldChk_zero (timed_zero h2).1
  by_cases h3 : k < 0
  · rw [if_pos (.inl h3)]
    simp only [F_bracket_Set, bracket_Set_r0, bracket_Set_r1, bracket_Set_r2, bracket_Set_r3, bracket_Set_r5, bracket_Set_r6, bracket_Set_r8, bracket_Set_r9, Dt.eval, e1, e2, ne0_f h1, ne0_f h2, decide_eq_true h3, cond_true, cond_false, e3, bracket_Set_K]; rfl
  obtain ⟨p, rfl⟩ : ∃ p : Nat, k = p := ⟨k.toNat, by omega⟩
  by_cases h4 : (P.length : Int) ≤ (p : Int)
  · rw [if_pos (.inr h4)]
    have h5 : decide ((p : Int) ≥ ((unI P).length : Int)) = true := decide_eq_true (by rw [unI_len]; exact h4)
    simp only [F_bracket_Set, bracket_Set_r0, bracket_Set_r1, bracket_Set_r2, bracket_Set_r3, bracket_Set_r5, bracket_Set_r6, bracket_Set_r8, bracket_Set_r9, Dt.eval, e1, e2, ne0_f h1, ne0_f h2, decide_eq_false h3, h5, cond_true, cond_false, e3, bracket_Set_K]; rfl
  rw [if_neg (not_or.2 ⟨h3, h4⟩)]
  have h5 : decide ((p : Int) ≥ ((unI P).length : Int)) = false := decide_eq_false (by rw [unI_len]; exact h4)
  have hp : p < P.length := by omega
  have c1 : F_slices_Clone_int_int d ((unI P, ()), ()) = some (unI P) := by
    rw [F_slices_Clone_int_int_eq _ _ (by unfold slices_Clone_int_int_if; simp only [idsI_unI, decide_eq_true_eq]; omega)]; simp only [idsI_unI]
  have c2 : F_slices_Clone_int_int d ((unI W, ()), ()) = some (unI W) := by
    rw [F_slices_Clone_int_int_eq _ _ (by unfold slices_Clone_int_int_if; simp only [idsI_unI, decide_eq_true_eq]; omega)]; simp only [idsI_unI]
  have b1 : inB (p : Int) (unI P).length = true := inB_t (by omega) (by rw [unI_len]; omega)
  have k1 : F_bracket_known d ((toPs l, ()), (unI (P.set p id), ()), ()) = some (knownB l (P.set p id)) := by
    rw [F_bracket_known_eq _ _ (by unfold bracket_known_if; simp only [idsI_unI, ptsL_toP, f3, List.length_set, Bool.and_true, Bool.and_eq_true, decide_eq_true_eq]; omega)]; simp only [idsI_unI, ptsL_toP]
  have k2 : F_bracket_once d ((unI (P.set p id), ()), ()) = some (onceB (P.set p id)) := by
    rw [F_bracket_once_eq _ _ (by unfold bracket_once_if; simp only [idsI_unI, all64B_set hP hI, List.length_set, Bool.and_true, decide_eq_true_eq]; omega)]; simp only [idsI_unI]
  simp only [Int.toNat_natCast]
  cases h6 : knownB l (P.set p id) with
  | false =>
    rw [if_neg (by simp)]
    simp only [F_bracket_Set, bracket_Set_r0, bracket_Set_r1, bracket_Set_r2, bracket_Set_r3, bracket_Set_r5, bracket_Set_r6, bracket_Set_r8, bracket_Set_r10, bracket_Set_r11, bracket_Set_r12, bracket_Set_r13, Dt.eval, e1, e2, ne0_f h1, ne0_f h2, decide_eq_false h3, h5, c1, c2, b1, Int.toNat_natCast, set_unI, k1, h6, Bool.not_false, cond_true, cond_false, e3, bracket_Set_K]; rfl
  | true =>
    rw [if_pos rfl]
    cases h7 : onceB (P.set p id) with
    | false =>
      rw [if_neg (by simp)]
      simp only [F_bracket_Set, bracket_Set_r0, bracket_Set_r1, bracket_Set_r2, bracket_Set_r3, bracket_Set_r5, bracket_Set_r6, bracket_Set_r8, bracket_Set_r10, bracket_Set_r11, bracket_Set_r12, bracket_Set_r14, bracket_Set_r15, Dt.eval, e1, e2, ne0_f h1, ne0_f h2, decide_eq_false h3, h5, c1, c2, b1, Int.toNat_natCast, set_unI, k1, k2, h6, h7, Bool.not_false, Bool.not_true, cond_true, cond_false, e3, bracket_Set_K]; rfl
    | true =>
      rw [if_pos rfl]
      have u1 : IntKind.wrap .i64 (((unI W).length : Int) + (p : Int)) = ((W.length + p : Nat) : Int) := by rw [unI_len, wr64 (by omega) (by omega)]; omega
      have u2 : F_bracket_up d ((((W.length + p : Nat) : Int), ()), ()) = some ((W.length + p : Nat) : Int) := by
        rw [F_bracket_up_eq _ _ (by unfold bracket_up_if; exact decide_eq_true (Int.natCast_nonneg _))]
      have u3 : upB ((W.length + p : Nat) : Int) = true := by unfold upB; simp only [Bool.and_eq_true, decide_eq_true_eq]; omega
      have lp := bset_loop (P0 := P) (W0 := W) (l := l) (n := n) (m := m) (P := P.set p id) d ([] : List Di) ([] : List Di) hN hD h2 (by rw [List.length_set]; omega) (W.length + p) W [] (by rw [List.length_set]; exact p3) rfl (by rw [List.length_set]; omega) (by simp; omega) (okBut_start p3 s3 hp h6)
      have n0 : (unI ([] : List Int)) = ([] : List Di) := rfl
      rw [n0] at lp
      simp only [F_bracket_Set, bracket_Set_r0, bracket_Set_r1, bracket_Set_r2, bracket_Set_r3, bracket_Set_r5, bracket_Set_r6, bracket_Set_r8, bracket_Set_r10, bracket_Set_r11, bracket_Set_r12, bracket_Set_r14, bracket_Set_r16, bracket_Set_r17, Dt.eval, e1, e2, ne0_f h1, ne0_f h2, decide_eq_false h3, h5, c1, c2, b1, Int.toNat_natCast, set_unI, k1, k2, h6, h7, u1, u2, u3, Bool.not_true, cond_true, cond_false, lp, Option.bind_some, bracket_Set_r22, bracket_Set_K]
theorem brSet_len (l : List Pt) (n m : Int) (P W : List Int) (k id : Int) : (brSet l n m P W k id).1.length ≤ P.length ∧ (brSet l n m P W k id).2.1.length ≤ W.length ∧ (brSet l n m P W k id).2.2.1.length ≤ W.length + P.length := by
  unfold brSet
  split
  · simp
  · split
    · simp
    · split
      · simp
      · split
        · split
          · rename_i h _ _
            refine ⟨by simp, by show (Pel.setR l n m (P.set k.toNat id) W (W.length + k.toNat) (W, [])).1.length ≤ _; rw [Pel.setR_len]; exact Nat.le_refl _, ?_⟩
            have := Pel.setR_len2 l n m (P.set k.toNat id) W (W.length + k.toNat) (W, [])
            simp only [List.length_nil] at this
            show (Pel.setR l n m (P.set k.toNat id) W (W.length + k.toNat) (W, [])).2.length ≤ _
            omega
          · simp
        · simp
theorem bsame_refl (d : Nat) {P W : List Int} (hP : P.length ≤ 1000) (hW : W.length ≤ 1000) : F_ref10_Same d ((unI P, unI W, ()), (unI P, unI W, ()), ()) = some true := by
  rw [F_ref10_Same_eq _ _ (by unfold ref10_Same_if; simp only [idsI_unI, Bool.and_eq_true, decide_eq_true_eq]; omega)]; simp only [idsI_unI, decide_true, Bool.and_self]
theorem sameIDs_refl (d : Nat) {Q : List Int} (hQ : Q.length ≤ 1000) : F_ref03_SameIDs d ((unI Q, ()), (unI Q, ()), ()) = some true := by
  rw [F_ref03_SameIDs_eq _ _ (by unfold ref03_SameIDs_if; simp only [idsI_unI, Bool.and_eq_true, decide_eq_true_eq]; omega)]; simp only [idsI_unI, decide_true]
end Go.Proofs.Ytkcpnclgcmnlcaa
