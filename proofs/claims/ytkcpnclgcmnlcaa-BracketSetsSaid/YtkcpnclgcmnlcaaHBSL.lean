/- Walks for the law. -/
import Derived.Test.YtkcpnclgcmnlcaaGj
set_option linter.unusedSimpArgs false
set_option linter.unusedVariables false
namespace Go.Proofs.Ytkcpnclgcmnlcaa
open Go Go.Tx Go.Proofs.Try
set_option maxRecDepth 100000
set_option maxHeartbeats 0
abbrev ref10_Way_ps : List Pk := [.row RLiELiE true, .row Ri false]
abbrev ref10_Way_X : Type := DLiELiE × Di × Unit
abbrev ref10_Way_R : Type := List Di
def ref10_Way_enc (r : ref10_Way_R) : LV × List Ob := (.rs 0, [.rows Ri r])
def ref10_Way_sp (F : ref10_Way_X → Option ref10_Way_R) : Go.Tx.Spec := ⟨85, ref10_Way_ps, ref10_Way_R, F, ref10_Way_enc⟩
abbrev ref10_Way_C : Type := Unit
def ref10_Way_K (_d : Nat) : ref10_Way_C := ()
def ref10_Way_tab (C : ref10_Way_C) : List Go.Tx.Spec := []
abbrev ref10_Way_Y0i : Type := List Di × List Di × Int
def ref10_Way_S0i (v : ref10_Way_Y0i) : St := ⟨[(0, .agg [.fz Ri v.1, .fz Ri v.2.1]), (1, .int .i64 v.2.2)], []⟩
abbrev ref10_Way_Y0 : Type := Int × List Di × List Di
def ref10_Way_S0 (v : ref10_Way_Y0) : St := ⟨[(1, .int .i64 v.1), (2, .ptr 0 0)], [.cells [.fz Ri v.2.1, .fz Ri v.2.2]]⟩
def ref10_Way_r0 (C : ref10_Way_C) (v : ref10_Way_Y0i) : Dt ref10_Way_Y0 := (Dt.ret (v.2.2, v.1, v.2.1))
theorem ref10_Way_g0 (C : ref10_Way_C) (v : ref10_Way_Y0i) : treg tysT (orc (ref10_Way_tab C)) 22 (regO (bodyOf f85) 0) false [(1, .any), (2, (.box [.val Ri, .val Ri]))] (ref10_Way_S0i v) some = (ref10_Way_r0 C v).eval fun y => some (ref10_Way_S0 y) := by kernel_rfl
abbrev ref10_Way_Y1 : Type := Int × List Di × List Di × List Di
def ref10_Way_S1 (v : ref10_Way_Y1) : St := ⟨[(1, .int .i64 v.1), (2, .ptr 0 0), (5, .rs 1)], [.cells [.fz Ri v.2.1, .fz Ri v.2.2.1], .rows Ri v.2.2.2]⟩
def ref10_Way_r1 (C : ref10_Way_C) (v : ref10_Way_Y0) : Dt ref10_Way_Y1 := (Dt.ret (v.1, v.2.1, v.2.2, ([] : List Di)))
theorem ref10_Way_g1 (C : ref10_Way_C) (v : ref10_Way_Y0) : treg tysT (orc (ref10_Way_tab C)) 22 (regO (bodyOf f85) 1) false [(1, .any), (2, (.box [.val Ri, .val Ri])), (5, (.own Ri))] (ref10_Way_S0 v) some = (ref10_Way_r1 C v).eval fun y => some (ref10_Way_S1 y) := by kernel_rfl
abbrev ref10_Way_Y2 : Type := Int × List Di
def ref10_Way_S2 (v : ref10_Way_Y2) : St := ⟨[(5, .rs 0), (6, .int .i64 v.1)], [.rows Ri v.2]⟩
def ref10_Way_r2 (C : ref10_Way_C) (v : ref10_Way_Y1) : Dt ref10_Way_Y2 := (Dt.ret ((IntKind.wrap .i64 (v.1 + (List.length v.2.2.1 : Int))), v.2.2.2))
theorem ref10_Way_g2 (C : ref10_Way_C) (v : ref10_Way_Y1) : treg tysT (orc (ref10_Way_tab C)) 22 (regO (bodyOf f85) 2) false [(5, (.own Ri)), (6, .any)] (ref10_Way_S1 v) some = (ref10_Way_r2 C v).eval fun y => some (ref10_Way_S2 y) := by kernel_rfl
abbrev ref10_Way_Y3 : Type := Int × Bool × List Di
def ref10_Way_S3 (v : ref10_Way_Y3) : St := ⟨[(5, .rs 0), (6, .int .i64 v.1), (13, .bool v.2.1)], [.rows Ri v.2.2]⟩
def ref10_Way_r3 (C : ref10_Way_C) (v : ref10_Way_Y2) : Dt ref10_Way_Y3 := (Dt.ret (v.1, (decide (v.1 > (0:Int))), v.2))
theorem ref10_Way_g3 (C : ref10_Way_C) (v : ref10_Way_Y2) : treg tysT (orc (ref10_Way_tab C)) 22 (regO (bodyOf f85) 3) false [(5, (.own Ri)), (6, .any), (13, .any)] (ref10_Way_S2 v) some = (ref10_Way_r3 C v).eval fun y => some (ref10_Way_S3 y) := by kernel_rfl
def ref10_Way_r4 (C : ref10_Way_C) (v : ref10_Way_Y3) : Dt ref10_Way_Y2 := (Dt.ite ((2:Int) == (0:Int)) Dt.fail (Dt.ret ((IntKind.wrap .i64 (Int.tdiv (IntKind.wrap .i64 (v.1 - (1:Int))) (2:Int))), v.2.2)))
theorem ref10_Way_g4 (C : ref10_Way_C) (v : ref10_Way_Y3) : treg tysT (orc (ref10_Way_tab C)) 22 (regO (bodyOf f85) 4) false [(5, (.own Ri)), (6, .any)] (ref10_Way_S3 v) some = (ref10_Way_r4 C v).eval fun y => some (ref10_Way_S2 y) := by kernel_rfl
def ref10_Way_r5 (C : ref10_Way_C) (v : ref10_Way_Y2) : Dt ref10_Way_Y2 := (Dt.ite (apB (List.length v.2) (List.length ([(v.1, ())] : List Di))) (Dt.ret (v.1, (v.2 ++ ([(v.1, ())] : List Di)))) Dt.fail)
theorem ref10_Way_g5 (C : ref10_Way_C) (v : ref10_Way_Y2) : treg tysT (orc (ref10_Way_tab C)) 22 (regO (bodyOf f85) 5) false [(5, (.own Ri)), (6, .any)] (ref10_Way_S2 v) some = (ref10_Way_r5 C v).eval fun y => some (ref10_Way_S2 y) := by kernel_rfl
abbrev ref10_Way_Y6 : Type := List Di
def ref10_Way_S6 (v : ref10_Way_Y6) : St := ⟨[(4, .rs 0)], [.rows Ri v]⟩
def ref10_Way_r6 (C : ref10_Way_C) (v : ref10_Way_Y3) : Dt ref10_Way_Y6 := (Dt.ret v.2.2)
theorem ref10_Way_g6 (C : ref10_Way_C) (v : ref10_Way_Y3) : treg tysT (orc (ref10_Way_tab C)) 22 (regO (bodyOf f85) 6) false [(4, (.own Ri))] (ref10_Way_S3 v) some = (ref10_Way_r6 C v).eval fun y => some (ref10_Way_S6 y) := by kernel_rfl
def ref10_Way_L1 (d : Nat) (self1 : (Int × List Di) → Option ref10_Way_R) (x1 : Int × List Di) : Option ref10_Way_R :=
  (ref10_Way_r3 (ref10_Way_K d) x1).eval fun y3 =>
  bif y3.2.1 then ((ref10_Way_r4 (ref10_Way_K d) y3).eval fun y4 =>
  (ref10_Way_r5 (ref10_Way_K d) y4).eval fun y5 =>
  self1 y5) else ((ref10_Way_r6 (ref10_Way_K d) y3).eval fun y6 =>
  some y6)
def F_ref10_Way (d : Nat) (x : ref10_Way_X) : Option ref10_Way_R :=
  (ref10_Way_r0 (ref10_Way_K d) (x.1.1, x.1.2.1, x.2.1.1)).eval fun y0 =>
  (ref10_Way_r1 (ref10_Way_K d) y0).eval fun y1 =>
  (ref10_Way_r2 (ref10_Way_K d) y1).eval fun y2 =>
  iter (ref10_Way_L1 d ) d y2
theorem ref10_Way_cok (d : Nat) : COK prog (ref10_Way_sp (F_ref10_Way d)) := by
  have hm : prog.follows .mixedOrders = true := mixed
  have hT := tys
  have hC : OrcOK prog (orc (ref10_Way_tab (ref10_Way_K d))) := orc_ok (by
    intro S hS
    simp only [ref10_Way_tab, List.mem_cons, List.not_mem_nil, or_false] at hS
    all_goals first | cases hS | exact hS.elim)
  refine cok_of (c := bodyOf f85) (fn := f85) hT (by kernel_rfl) (by kernel_rfl) (by decide) fun x r h w0 φ0 Q hend => ?_
  replace h : F_ref10_Way d x = some r := h
  unfold F_ref10_Way at h
  show Run prog w0 φ0 22 (bodyOf f85) ⟨[(0, .agg [.fz Ri x.1.1, .fz Ri x.1.2.1]), (1, .int .i64 x.2.1.1)], []⟩ Q
  refine run_seq ?_
  refine run_reg hm hT hC (ref10_Way_g0 (ref10_Way_K d) (x.1.1, x.1.2.1, x.2.1.1)) h ?_
  intro y0 h
  refine cn_then ?_
  refine run_seq ?_
  refine run_reg hm hT hC (ref10_Way_g1 (ref10_Way_K d) y0) h ?_
  intro y1 h
  refine cn_then ?_
  refine run_seq ?_
  refine run_seq ?_
  refine run_reg hm hT hC (ref10_Way_g2 (ref10_Way_K d) y1) h ?_
  intro y2 h
  refine cn_then ?_
  refine run_block ?_
  refine run_loop (G := iter (ref10_Way_L1 d )) (S := (fun x1 => ⟨[(5, .rs 0), (6, .int .i64 x1.1)], [.rows Ri x1.2]⟩ : Int × List Di → St)) (fun _ => rfl) ?_ d _ h
  intro n1 x1 h K1 hn1
  replace h : ref10_Way_L1 d  (iter (ref10_Way_L1 d ) n1) x1 = some r := h
  generalize iter (ref10_Way_L1 d ) n1 = self1 at h hn1
  unfold ref10_Way_L1 at h
  refine run_seq ?_
  refine run_seq ?_
  refine run_reg hm hT hC (ref10_Way_g3 (ref10_Way_K d) x1) h ?_
  intro y3 h
  refine cn_then ?_
  refine run_cond (v := y3.2.1) (by kernel_rfl) h ?_ ?_
  ·
    intro h
    refine run_skip ?_
    refine cn_then ?_
    refine run_block ?_
    refine run_seq ?_
    refine run_reg hm hT hC (ref10_Way_g4 (ref10_Way_K d) y3) h ?_
    intro y4 h
    refine cn_then ?_
    refine run_reg hm hT hC (ref10_Way_g5 (ref10_Way_K d) y4) h ?_
    intro y5 h
    refine cn_blk ?_
    exact hn1 _ h
  ·
    intro h
    refine run_exit ?_
    refine cn_then_exit ?_
    refine cn_then_exit ?_
    refine cn_blk_eq ?_
    refine cn_then ?_
    refine run_seq ?_
    refine run_reg hm hT hC (ref10_Way_g6 (ref10_Way_K d) y3) h ?_
    intro y6 h
    refine cn_then ?_
    refine run_ret ?_
    cases h
    exact (hend _ (by kernel_rfl)).2
abbrev ref10_Node_ps : List Pk := [.row RLiELiE true, .row Ri false]
abbrev ref10_Node_X : Type := DLiELiE × Di × Unit
abbrev ref10_Node_R : Type := Int
def ref10_Node_enc (r : ref10_Node_R) : LV × List Ob := (.int .i64 r, [])
def ref10_Node_sp (F : ref10_Node_X → Option ref10_Node_R) : Go.Tx.Spec := ⟨83, ref10_Node_ps, ref10_Node_R, F, ref10_Node_enc⟩
abbrev ref10_Node_C : Type := Unit
def ref10_Node_K (_d : Nat) : ref10_Node_C := ()
def ref10_Node_tab (C : ref10_Node_C) : List Go.Tx.Spec := []
abbrev ref10_Node_Y0i : Type := List Di × List Di × Int
def ref10_Node_S0i (v : ref10_Node_Y0i) : St := ⟨[(0, .agg [.fz Ri v.1, .fz Ri v.2.1]), (1, .int .i64 v.2.2)], []⟩
abbrev ref10_Node_Y0 : Type := Int × List Di × List Di
def ref10_Node_S0 (v : ref10_Node_Y0) : St := ⟨[(1, .int .i64 v.1), (2, .ptr 0 0)], [.cells [.fz Ri v.2.1, .fz Ri v.2.2]]⟩
def ref10_Node_r0 (C : ref10_Node_C) (v : ref10_Node_Y0i) : Dt ref10_Node_Y0 := (Dt.ret (v.2.2, v.1, v.2.1))
theorem ref10_Node_g0 (C : ref10_Node_C) (v : ref10_Node_Y0i) : treg tysT (orc (ref10_Node_tab C)) 24 (regO (bodyOf f83) 0) false [(1, .any), (2, (.box [.val Ri, .val Ri]))] (ref10_Node_S0i v) some = (ref10_Node_r0 C v).eval fun y => some (ref10_Node_S0 y) := by kernel_rfl
abbrev ref10_Node_Y1 : Type := Int × Bool × List Di × List Di
def ref10_Node_S1 (v : ref10_Node_Y1) : St := ⟨[(1, .int .i64 v.1), (2, .ptr 0 0), (9, .bool v.2.1)], [.cells [.fz Ri v.2.2.1, .fz Ri v.2.2.2]]⟩
def ref10_Node_r1 (C : ref10_Node_C) (v : ref10_Node_Y0) : Dt ref10_Node_Y1 := (Dt.ret (v.1, (decide (v.1 < (List.length v.2.2 : Int))), v.2.1, v.2.2))
theorem ref10_Node_g1 (C : ref10_Node_C) (v : ref10_Node_Y0) : treg tysT (orc (ref10_Node_tab C)) 24 (regO (bodyOf f83) 1) false [(1, .any), (2, (.box [.val Ri, .val Ri])), (9, .any)] (ref10_Node_S0 v) some = (ref10_Node_r1 C v).eval fun y => some (ref10_Node_S1 y) := by kernel_rfl
abbrev ref10_Node_Y2 : Type := Int
def ref10_Node_S2 (v : ref10_Node_Y2) : St := ⟨[(4, .int .i64 v)], []⟩
def ref10_Node_r2 (C : ref10_Node_C) (v : ref10_Node_Y1) : Dt ref10_Node_Y2 := (Dt.ite (inB v.1 (List.length v.2.2.2)) (Dt.ret (elt zi v.2.2.2 (v.1).toNat).1) Dt.fail)
theorem ref10_Node_g2 (C : ref10_Node_C) (v : ref10_Node_Y1) : treg tysT (orc (ref10_Node_tab C)) 24 (regO (bodyOf f83) 2) false [(4, .any)] (ref10_Node_S1 v) some = (ref10_Node_r2 C v).eval fun y => some (ref10_Node_S2 y) := by kernel_rfl
def ref10_Node_r3 (C : ref10_Node_C) (v : ref10_Node_Y1) : Dt ref10_Node_Y2 := (Dt.ite (inB (IntKind.wrap .i64 (v.1 - (List.length v.2.2.2 : Int))) (List.length v.2.2.1)) (Dt.ret (elt zi v.2.2.1 ((IntKind.wrap .i64 (v.1 - (List.length v.2.2.2 : Int)))).toNat).1) Dt.fail)
theorem ref10_Node_g3 (C : ref10_Node_C) (v : ref10_Node_Y1) : treg tysT (orc (ref10_Node_tab C)) 24 (regO (bodyOf f83) 3) false [(4, .any)] (ref10_Node_S1 v) some = (ref10_Node_r3 C v).eval fun y => some (ref10_Node_S2 y) := by kernel_rfl
def F_ref10_Node (d : Nat) (x : ref10_Node_X) : Option ref10_Node_R :=
  (ref10_Node_r0 (ref10_Node_K d) (x.1.1, x.1.2.1, x.2.1.1)).eval fun y0 =>
  (ref10_Node_r1 (ref10_Node_K d) y0).eval fun y1 =>
  bif y1.2.1 then ((ref10_Node_r2 (ref10_Node_K d) y1).eval fun y2 =>
  some y2) else ((ref10_Node_r3 (ref10_Node_K d) y1).eval fun y3 =>
  some y3)
theorem ref10_Node_cok (d : Nat) : COK prog (ref10_Node_sp (F_ref10_Node d)) := by
  have hm : prog.follows .mixedOrders = true := mixed
  have hT := tys
  have hC : OrcOK prog (orc (ref10_Node_tab (ref10_Node_K d))) := orc_ok (by
    intro S hS
    simp only [ref10_Node_tab, List.mem_cons, List.not_mem_nil, or_false] at hS
    all_goals first | cases hS | exact hS.elim)
  refine cok_of (c := bodyOf f83) (fn := f83) hT (by kernel_rfl) (by kernel_rfl) (by decide) fun x r h w0 φ0 Q hend => ?_
  replace h : F_ref10_Node d x = some r := h
  unfold F_ref10_Node at h
  show Run prog w0 φ0 24 (bodyOf f83) ⟨[(0, .agg [.fz Ri x.1.1, .fz Ri x.1.2.1]), (1, .int .i64 x.2.1.1)], []⟩ Q
  refine run_seq ?_
  refine run_reg hm hT hC (ref10_Node_g0 (ref10_Node_K d) (x.1.1, x.1.2.1, x.2.1.1)) h ?_
  intro y0 h
  refine cn_then ?_
  refine run_seq ?_
  refine run_seq ?_
  refine run_reg hm hT hC (ref10_Node_g1 (ref10_Node_K d) y0) h ?_
  intro y1 h
  refine cn_then ?_
  refine run_cond (v := y1.2.1) (by kernel_rfl) h ?_ ?_
  ·
    intro h
    refine run_seq ?_
    refine run_reg hm hT hC (ref10_Node_g2 (ref10_Node_K d) y1) h ?_
    intro y2 h
    refine cn_then ?_
    refine run_ret ?_
    refine cn_then_ret ?_
    cases h
    exact (hend _ (by kernel_rfl)).2
  ·
    intro h
    refine run_skip ?_
    refine cn_then ?_
    refine run_seq ?_
    refine run_reg hm hT hC (ref10_Node_g3 (ref10_Node_K d) y1) h ?_
    intro y3 h
    refine cn_then ?_
    refine run_ret ?_
    cases h
    exact (hend _ (by kernel_rfl)).2
abbrev ref10_Placed_ps : List Pk := [.row RLiELiE true, .row RLiiiE true, .row Rii true, .row Ri false, .row Ri false]
abbrev ref10_Placed_X : Type := DLiELiE × DLiiiE × Dii × Di × Di × Unit
abbrev ref10_Placed_R : Type := List Di × List Di × List Di
def ref10_Placed_enc (r : ref10_Placed_R) : LV × List Ob := (.tup [.agg [.rs 0, .rs 1], .rs 2], [.rows Ri r.1, .rows Ri r.2.1, .rows Ri r.2.2])
def ref10_Placed_sp (F : ref10_Placed_X → Option ref10_Placed_R) : Go.Tx.Spec := ⟨81, ref10_Placed_ps, ref10_Placed_R, F, ref10_Placed_enc⟩
abbrev ref10_Placed_C : Type := (ref10_Node_X → Option ref10_Node_R) × (ref10_Way_X → Option ref10_Way_R) × (ref10_Won_X → Option ref10_Won_R) × Unit
def ref10_Placed_K (d : Nat) : ref10_Placed_C := (F_ref10_Node d, F_ref10_Way d, F_ref10_Won d, ())
def ref10_Placed_tab (C : ref10_Placed_C) : List Go.Tx.Spec := [ref10_Node_sp C.1, ref10_Way_sp C.2.1, ref10_Won_sp C.2.2.1]
abbrev ref10_Placed_Y0i : Type := List Di × List Di × List Diii × Int × Int × Int × Int
def ref10_Placed_S0i (v : ref10_Placed_Y0i) : St := ⟨[(0, .agg [.fz Ri v.1, .fz Ri v.2.1]), (1, .agg [.fz Riii v.2.2.1]), (2, .agg [.int .i64 v.2.2.2.1, .int .i64 v.2.2.2.2.1]), (3, .int .i64 v.2.2.2.2.2.1), (4, .int .i64 v.2.2.2.2.2.2)], []⟩
abbrev ref10_Placed_Y0 : Type := Int × Int × List Di × List Di × List Diii × Int × Int × List Di × List Di
def ref10_Placed_S0 (v : ref10_Placed_Y0) : St := ⟨[(3, .int .i64 v.1), (4, .int .i64 v.2.1), (5, .ptr 0 0), (6, .ptr 1 0), (7, .ptr 2 0), (10, .ptr 3 0)], [.cells [.fz Ri v.2.2.1, .fz Ri v.2.2.2.1], .cells [.fz Riii v.2.2.2.2.1], .cells [.int .i64 v.2.2.2.2.2.1, .int .i64 v.2.2.2.2.2.2.1], .cells [.rs 4, .rs 5], .rows Ri v.2.2.2.2.2.2.2.1, .rows Ri v.2.2.2.2.2.2.2.2]⟩
def ref10_Placed_r0 (C : ref10_Placed_C) (v : ref10_Placed_Y0i) : Dt ref10_Placed_Y0 := (Dt.ret (v.2.2.2.2.2.1, v.2.2.2.2.2.2, v.1, v.2.1, v.2.2.1, v.2.2.2.1, v.2.2.2.2.1, ([] : List Di), ([] : List Di)))
theorem ref10_Placed_g0 (C : ref10_Placed_C) (v : ref10_Placed_Y0i) : treg tysT (orc (ref10_Placed_tab C)) 78 (regO (bodyOf f81) 0) false [(3, .any), (4, .any), (5, (.box [.val Ri, .val Ri])), (6, (.box [.val Riii])), (7, .any), (10, (.box [.own Ri, .own Ri]))] (ref10_Placed_S0i v) some = (ref10_Placed_r0 C v).eval fun y => some (ref10_Placed_S0 y) := by kernel_rfl
abbrev ref10_Placed_Y1 : Type := Int × Int × List Di × List Di × List Diii × Int × Int × List Di × List Di × List Di × List Di
def ref10_Placed_S1 (v : ref10_Placed_Y1) : St := ⟨[(3, .int .i64 v.1), (4, .int .i64 v.2.1), (5, .ptr 0 0), (6, .ptr 1 0), (7, .ptr 2 0), (10, .ptr 3 0), (12, .ptr 6 0)], [.cells [.fz Ri v.2.2.1, .fz Ri v.2.2.2.1], .cells [.fz Riii v.2.2.2.2.1], .cells [.int .i64 v.2.2.2.2.2.1, .int .i64 v.2.2.2.2.2.2.1], .cells [.rs 4, .rs 5], .rows Ri v.2.2.2.2.2.2.2.1, .rows Ri v.2.2.2.2.2.2.2.2.1, .cells [.rs 7, .rs 8], .rows Ri v.2.2.2.2.2.2.2.2.2.1, .rows Ri v.2.2.2.2.2.2.2.2.2.2]⟩
def ref10_Placed_r1 (C : ref10_Placed_C) (v : ref10_Placed_Y0) : Dt ref10_Placed_Y1 := (Dt.ite (apB (List.length ([] : List Di)) (List.length v.2.2.1)) (Dt.ite (apB (List.length ([] : List Di)) (List.length v.2.2.2.1)) (Dt.ret (v.1, v.2.1, v.2.2.1, v.2.2.2.1, v.2.2.2.2.1, v.2.2.2.2.2.1, v.2.2.2.2.2.2.1, v.2.2.2.2.2.2.2.1, v.2.2.2.2.2.2.2.2, (([] : List Di) ++ v.2.2.1), (([] : List Di) ++ v.2.2.2.1))) Dt.fail) Dt.fail)
theorem ref10_Placed_g1 (C : ref10_Placed_C) (v : ref10_Placed_Y0) : treg tysT (orc (ref10_Placed_tab C)) 78 (regO (bodyOf f81) 1) true [(3, .any), (4, .any), (5, (.box [.val Ri, .val Ri])), (6, (.box [.val Riii])), (7, .any), (10, (.box [.own Ri, .own Ri])), (12, (.box [.own Ri, .own Ri]))] (ref10_Placed_S0 v) some = (ref10_Placed_r1 C v).eval fun y => some (ref10_Placed_S1 y) := by kernel_rfl
abbrev ref10_Placed_Y2 : Type := Int × List Di × List Di × List Diii × Int × Int × List Di × List Di × List Di × List Di
def ref10_Placed_S2 (v : ref10_Placed_Y2) : St := ⟨[(3, .int .i64 v.1), (5, .ptr 0 0), (6, .ptr 1 0), (7, .ptr 2 0), (10, .ptr 3 0), (12, .ptr 6 0)], [.cells [.fz Ri v.2.1, .fz Ri v.2.2.1], .cells [.fz Riii v.2.2.2.1], .cells [.int .i64 v.2.2.2.2.1, .int .i64 v.2.2.2.2.2.1], .cells [.rs 4, .rs 5], .rows Ri v.2.2.2.2.2.2.1, .rows Ri v.2.2.2.2.2.2.2.1, .cells [.rs 7, .rs 8], .rows Ri v.2.2.2.2.2.2.2.2.1, .rows Ri v.2.2.2.2.2.2.2.2.2]⟩
def ref10_Placed_r2 (C : ref10_Placed_C) (v : ref10_Placed_Y1) : Dt ref10_Placed_Y2 := (Dt.ite (inB v.1 (List.length v.2.2.2.2.2.2.2.2.2.1)) (Dt.ret (v.1, v.2.2.1, v.2.2.2.1, v.2.2.2.2.1, v.2.2.2.2.2.1, v.2.2.2.2.2.2.1, v.2.2.2.2.2.2.2.1, v.2.2.2.2.2.2.2.2.1, (List.set v.2.2.2.2.2.2.2.2.2.1 (v.1).toNat (v.2.1, ())), v.2.2.2.2.2.2.2.2.2.2)) Dt.fail)
theorem ref10_Placed_g2 (C : ref10_Placed_C) (v : ref10_Placed_Y1) : treg tysT (orc (ref10_Placed_tab C)) 78 (regO (bodyOf f81) 2) false [(3, .any), (5, (.box [.val Ri, .val Ri])), (6, (.box [.val Riii])), (7, .any), (10, (.box [.own Ri, .own Ri])), (12, (.box [.own Ri, .own Ri]))] (ref10_Placed_S1 v) some = (ref10_Placed_r2 C v).eval fun y => some (ref10_Placed_S2 y) := by kernel_rfl
abbrev ref10_Placed_Y3 : Type := Int × List Di × List Di × List Diii × Int × Int × List Di × List Di × List Di × List Di × List Di
def ref10_Placed_S3 (v : ref10_Placed_Y3) : St := ⟨[(3, .int .i64 v.1), (5, .ptr 0 0), (6, .ptr 1 0), (7, .ptr 2 0), (10, .ptr 3 0), (12, .ptr 6 0), (13, .rs 9)], [.cells [.fz Ri v.2.1, .fz Ri v.2.2.1], .cells [.fz Riii v.2.2.2.1], .cells [.int .i64 v.2.2.2.2.1, .int .i64 v.2.2.2.2.2.1], .cells [.rs 4, .rs 5], .rows Ri v.2.2.2.2.2.2.1, .rows Ri v.2.2.2.2.2.2.2.1, .cells [.rs 7, .rs 8], .rows Ri v.2.2.2.2.2.2.2.2.1, .rows Ri v.2.2.2.2.2.2.2.2.2.1, .rows Ri v.2.2.2.2.2.2.2.2.2.2]⟩
def ref10_Placed_r3 (C : ref10_Placed_C) (v : ref10_Placed_Y2) : Dt ref10_Placed_Y3 := (Dt.ret (v.1, v.2.1, v.2.2.1, v.2.2.2.1, v.2.2.2.2.1, v.2.2.2.2.2.1, v.2.2.2.2.2.2.1, v.2.2.2.2.2.2.2.1, v.2.2.2.2.2.2.2.2.1, v.2.2.2.2.2.2.2.2.2, ([] : List Di)))
theorem ref10_Placed_g3 (C : ref10_Placed_C) (v : ref10_Placed_Y2) : treg tysT (orc (ref10_Placed_tab C)) 78 (regO (bodyOf f81) 3) false [(3, .any), (5, (.box [.val Ri, .val Ri])), (6, (.box [.val Riii])), (7, .any), (10, (.box [.own Ri, .own Ri])), (12, (.box [.own Ri, .own Ri])), (13, (.own Ri))] (ref10_Placed_S2 v) some = (ref10_Placed_r3 C v).eval fun y => some (ref10_Placed_S3 y) := by kernel_rfl
abbrev ref10_Placed_Y4 : Type := List Di × List Di × List Diii × Int × Int × List Di × List Di × List Di × List Di × List Di × List Di
def ref10_Placed_S4 (v : ref10_Placed_Y4) : St := ⟨[(5, .ptr 0 0), (6, .ptr 1 0), (7, .ptr 2 0), (10, .ptr 3 0), (12, .ptr 6 0), (13, .rs 9), (14, .rs 10)], [.cells [.fz Ri v.1, .fz Ri v.2.1], .cells [.fz Riii v.2.2.1], .cells [.int .i64 v.2.2.2.1, .int .i64 v.2.2.2.2.1], .cells [.rs 4, .rs 5], .rows Ri v.2.2.2.2.2.1, .rows Ri v.2.2.2.2.2.2.1, .cells [.rs 7, .rs 8], .rows Ri v.2.2.2.2.2.2.2.1, .rows Ri v.2.2.2.2.2.2.2.2.1, .rows Ri v.2.2.2.2.2.2.2.2.2.1, .rows Ri v.2.2.2.2.2.2.2.2.2.2]⟩
def ref10_Placed_r4 (C : ref10_Placed_C) (v : ref10_Placed_Y3) : Dt ref10_Placed_Y4 := (Dt.bnd (C.2.1 ((v.2.1, v.2.2.1, ()), (v.1, ()), ())) fun r1 => (Dt.ret (v.2.1, v.2.2.1, v.2.2.2.1, v.2.2.2.2.1, v.2.2.2.2.2.1, v.2.2.2.2.2.2.1, v.2.2.2.2.2.2.2.1, v.2.2.2.2.2.2.2.2.1, v.2.2.2.2.2.2.2.2.2.1, v.2.2.2.2.2.2.2.2.2.2, r1)))
theorem ref10_Placed_g4 (C : ref10_Placed_C) (v : ref10_Placed_Y3) : treg tysT (orc (ref10_Placed_tab C)) 78 (regO (bodyOf f81) 4) false [(5, (.box [.val Ri, .val Ri])), (6, (.box [.val Riii])), (7, .any), (10, (.box [.own Ri, .own Ri])), (12, (.box [.own Ri, .own Ri])), (13, (.own Ri)), (14, (.own Ri))] (ref10_Placed_S3 v) some = (ref10_Placed_r4 C v).eval fun y => some (ref10_Placed_S4 y) := by kernel_rfl
abbrev ref10_Placed_Y5 : Type := Int × List Di × List Di × List Diii × Int × Int × List Di × List Di × List Di × List Di × List Di × List Di
def ref10_Placed_S5 (v : ref10_Placed_Y5) : St := ⟨[(5, .ptr 0 0), (6, .ptr 1 0), (7, .ptr 2 0), (10, .ptr 3 0), (12, .ptr 6 0), (13, .rs 9), (14, .rs 10), (15, .int .i64 v.1)], [.cells [.fz Ri v.2.1, .fz Ri v.2.2.1], .cells [.fz Riii v.2.2.2.1], .cells [.int .i64 v.2.2.2.2.1, .int .i64 v.2.2.2.2.2.1], .cells [.rs 4, .rs 5], .rows Ri v.2.2.2.2.2.2.1, .rows Ri v.2.2.2.2.2.2.2.1, .cells [.rs 7, .rs 8], .rows Ri v.2.2.2.2.2.2.2.2.1, .rows Ri v.2.2.2.2.2.2.2.2.2.1, .rows Ri v.2.2.2.2.2.2.2.2.2.2.1, .rows Ri v.2.2.2.2.2.2.2.2.2.2.2]⟩
def ref10_Placed_r5 (C : ref10_Placed_C) (v : ref10_Placed_Y4) : Dt ref10_Placed_Y5 := (Dt.ret ((0:Int), v.1, v.2.1, v.2.2.1, v.2.2.2.1, v.2.2.2.2.1, v.2.2.2.2.2.1, v.2.2.2.2.2.2.1, v.2.2.2.2.2.2.2.1, v.2.2.2.2.2.2.2.2.1, v.2.2.2.2.2.2.2.2.2.1, v.2.2.2.2.2.2.2.2.2.2))
theorem ref10_Placed_g5 (C : ref10_Placed_C) (v : ref10_Placed_Y4) : treg tysT (orc (ref10_Placed_tab C)) 78 (regO (bodyOf f81) 5) false [(5, (.box [.val Ri, .val Ri])), (6, (.box [.val Riii])), (7, .any), (10, (.box [.own Ri, .own Ri])), (12, (.box [.own Ri, .own Ri])), (13, (.own Ri)), (14, (.own Ri)), (15, .any)] (ref10_Placed_S4 v) some = (ref10_Placed_r5 C v).eval fun y => some (ref10_Placed_S5 y) := by kernel_rfl
abbrev ref10_Placed_Y6 : Type := Int × Bool × List Di × List Di × List Diii × Int × Int × List Di × List Di × List Di × List Di × List Di × List Di
def ref10_Placed_S6 (v : ref10_Placed_Y6) : St := ⟨[(5, .ptr 0 0), (6, .ptr 1 0), (7, .ptr 2 0), (10, .ptr 3 0), (12, .ptr 6 0), (13, .rs 9), (14, .rs 10), (15, .int .i64 v.1), (37, .bool v.2.1)], [.cells [.fz Ri v.2.2.1, .fz Ri v.2.2.2.1], .cells [.fz Riii v.2.2.2.2.1], .cells [.int .i64 v.2.2.2.2.2.1, .int .i64 v.2.2.2.2.2.2.1], .cells [.rs 4, .rs 5], .rows Ri v.2.2.2.2.2.2.2.1, .rows Ri v.2.2.2.2.2.2.2.2.1, .cells [.rs 7, .rs 8], .rows Ri v.2.2.2.2.2.2.2.2.2.1, .rows Ri v.2.2.2.2.2.2.2.2.2.2.1, .rows Ri v.2.2.2.2.2.2.2.2.2.2.2.1, .rows Ri v.2.2.2.2.2.2.2.2.2.2.2.2]⟩
def ref10_Placed_r6 (C : ref10_Placed_C) (v : ref10_Placed_Y5) : Dt ref10_Placed_Y6 := (Dt.ret (v.1, (decide (v.1 < (List.length v.2.2.2.2.2.2.2.2.2.2.2 : Int))), v.2.1, v.2.2.1, v.2.2.2.1, v.2.2.2.2.1, v.2.2.2.2.2.1, v.2.2.2.2.2.2.1, v.2.2.2.2.2.2.2.1, v.2.2.2.2.2.2.2.2.1, v.2.2.2.2.2.2.2.2.2.1, v.2.2.2.2.2.2.2.2.2.2.1, v.2.2.2.2.2.2.2.2.2.2.2))
theorem ref10_Placed_g6 (C : ref10_Placed_C) (v : ref10_Placed_Y5) : treg tysT (orc (ref10_Placed_tab C)) 78 (regO (bodyOf f81) 6) false [(5, (.box [.val Ri, .val Ri])), (6, (.box [.val Riii])), (7, .any), (10, (.box [.own Ri, .own Ri])), (12, (.box [.own Ri, .own Ri])), (13, (.own Ri)), (14, (.own Ri)), (15, .any), (37, .any)] (ref10_Placed_S5 v) some = (ref10_Placed_r6 C v).eval fun y => some (ref10_Placed_S6 y) := by kernel_rfl
abbrev ref10_Placed_Y8 : Type := Int × Int × List Di × List Di × List Diii × Int × Int × List Di × List Di × List Di × List Di × List Di × List Di
def ref10_Placed_S8 (v : ref10_Placed_Y8) : St := ⟨[(5, .ptr 0 0), (6, .ptr 1 0), (7, .ptr 2 0), (10, .ptr 3 0), (12, .ptr 6 0), (13, .rs 9), (14, .rs 10), (15, .int .i64 v.1), (16, .int .i64 v.2.1)], [.cells [.fz Ri v.2.2.1, .fz Ri v.2.2.2.1], .cells [.fz Riii v.2.2.2.2.1], .cells [.int .i64 v.2.2.2.2.2.1, .int .i64 v.2.2.2.2.2.2.1], .cells [.rs 4, .rs 5], .rows Ri v.2.2.2.2.2.2.2.1, .rows Ri v.2.2.2.2.2.2.2.2.1, .cells [.rs 7, .rs 8], .rows Ri v.2.2.2.2.2.2.2.2.2.1, .rows Ri v.2.2.2.2.2.2.2.2.2.2.1, .rows Ri v.2.2.2.2.2.2.2.2.2.2.2.1, .rows Ri v.2.2.2.2.2.2.2.2.2.2.2.2]⟩
def ref10_Placed_r8 (C : ref10_Placed_C) (v : ref10_Placed_Y6) : Dt ref10_Placed_Y8 := (Dt.ite (inB v.1 (List.length v.2.2.2.2.2.2.2.2.2.2.2.2)) (Dt.ret (v.1, (elt zi v.2.2.2.2.2.2.2.2.2.2.2.2 (v.1).toNat).1, v.2.2.1, v.2.2.2.1, v.2.2.2.2.1, v.2.2.2.2.2.1, v.2.2.2.2.2.2.1, v.2.2.2.2.2.2.2.1, v.2.2.2.2.2.2.2.2.1, v.2.2.2.2.2.2.2.2.2.1, v.2.2.2.2.2.2.2.2.2.2.1, v.2.2.2.2.2.2.2.2.2.2.2.1, v.2.2.2.2.2.2.2.2.2.2.2.2)) Dt.fail)
theorem ref10_Placed_g8 (C : ref10_Placed_C) (v : ref10_Placed_Y6) : treg tysT (orc (ref10_Placed_tab C)) 78 (regO (bodyOf f81) 8) false [(5, (.box [.val Ri, .val Ri])), (6, (.box [.val Riii])), (7, .any), (10, (.box [.own Ri, .own Ri])), (12, (.box [.own Ri, .own Ri])), (13, (.own Ri)), (14, (.own Ri)), (15, .any), (16, .any)] (ref10_Placed_S6 v) some = (ref10_Placed_r8 C v).eval fun y => some (ref10_Placed_S8 y) := by kernel_rfl
def ref10_Placed_r9 (C : ref10_Placed_C) (v : ref10_Placed_Y8) : Dt ref10_Placed_Y8 := (Dt.bnd (C.1 ((v.2.2.2.2.2.2.2.2.2.1, v.2.2.2.2.2.2.2.2.2.2.1, ()), ((IntKind.wrap .i64 ((IntKind.wrap .i64 ((2:Int) * v.2.1)) + (1:Int))), ()), ())) fun r1 => (Dt.bnd (C.1 ((v.2.2.2.2.2.2.2.2.2.1, v.2.2.2.2.2.2.2.2.2.2.1, ()), ((IntKind.wrap .i64 ((IntKind.wrap .i64 ((2:Int) * v.2.1)) + (2:Int))), ()), ())) fun r2 => (Dt.bnd (C.2.2.1 ((v.2.2.2.2.1, ()), (v.2.2.2.2.2.1, v.2.2.2.2.2.2.1, ()), (r1, ()), (r2, ()), ())) fun r3 => (Dt.ite (inB v.2.1 (List.length v.2.2.2.2.2.2.2.2.2.2.1)) (Dt.ret (v.1, v.2.1, v.2.2.1, v.2.2.2.1, v.2.2.2.2.1, v.2.2.2.2.2.1, v.2.2.2.2.2.2.1, v.2.2.2.2.2.2.2.1, v.2.2.2.2.2.2.2.2.1, v.2.2.2.2.2.2.2.2.2.1, (List.set v.2.2.2.2.2.2.2.2.2.2.1 (v.2.1).toNat (r3, ())), v.2.2.2.2.2.2.2.2.2.2.2.1, v.2.2.2.2.2.2.2.2.2.2.2.2)) Dt.fail))))
theorem ref10_Placed_g9 (C : ref10_Placed_C) (v : ref10_Placed_Y8) : treg tysT (orc (ref10_Placed_tab C)) 78 (regO (bodyOf f81) 9) true [(5, (.box [.val Ri, .val Ri])), (6, (.box [.val Riii])), (7, .any), (10, (.box [.own Ri, .own Ri])), (12, (.box [.own Ri, .own Ri])), (13, (.own Ri)), (14, (.own Ri)), (15, .any), (16, .any)] (ref10_Placed_S8 v) some = (ref10_Placed_r9 C v).eval fun y => some (ref10_Placed_S8 y) := by kernel_rfl
abbrev ref10_Placed_Y10 : Type := Int × Int × Bool × List Di × List Di × List Diii × Int × Int × List Di × List Di × List Di × List Di × List Di × List Di
def ref10_Placed_S10 (v : ref10_Placed_Y10) : St := ⟨[(5, .ptr 0 0), (6, .ptr 1 0), (7, .ptr 2 0), (10, .ptr 3 0), (12, .ptr 6 0), (13, .rs 9), (14, .rs 10), (15, .int .i64 v.1), (16, .int .i64 v.2.1), (71, .bool v.2.2.1)], [.cells [.fz Ri v.2.2.2.1, .fz Ri v.2.2.2.2.1], .cells [.fz Riii v.2.2.2.2.2.1], .cells [.int .i64 v.2.2.2.2.2.2.1, .int .i64 v.2.2.2.2.2.2.2.1], .cells [.rs 4, .rs 5], .rows Ri v.2.2.2.2.2.2.2.2.1, .rows Ri v.2.2.2.2.2.2.2.2.2.1, .cells [.rs 7, .rs 8], .rows Ri v.2.2.2.2.2.2.2.2.2.2.1, .rows Ri v.2.2.2.2.2.2.2.2.2.2.2.1, .rows Ri v.2.2.2.2.2.2.2.2.2.2.2.2.1, .rows Ri v.2.2.2.2.2.2.2.2.2.2.2.2.2]⟩
def ref10_Placed_r10 (C : ref10_Placed_C) (v : ref10_Placed_Y8) : Dt ref10_Placed_Y10 := (Dt.ite (inB v.2.1 (List.length v.2.2.2.2.2.2.2.2.2.2.1)) (Dt.ite (inB v.2.1 (List.length v.2.2.2.1)) (Dt.ret (v.1, v.2.1, ((elt zi v.2.2.2.2.2.2.2.2.2.2.1 (v.2.1).toNat).1 != (elt zi v.2.2.2.1 (v.2.1).toNat).1), v.2.2.1, v.2.2.2.1, v.2.2.2.2.1, v.2.2.2.2.2.1, v.2.2.2.2.2.2.1, v.2.2.2.2.2.2.2.1, v.2.2.2.2.2.2.2.2.1, v.2.2.2.2.2.2.2.2.2.1, v.2.2.2.2.2.2.2.2.2.2.1, v.2.2.2.2.2.2.2.2.2.2.2.1, v.2.2.2.2.2.2.2.2.2.2.2.2)) Dt.fail) Dt.fail)
theorem ref10_Placed_g10 (C : ref10_Placed_C) (v : ref10_Placed_Y8) : treg tysT (orc (ref10_Placed_tab C)) 78 (regO (bodyOf f81) 10) true [(5, (.box [.val Ri, .val Ri])), (6, (.box [.val Riii])), (7, .any), (10, (.box [.own Ri, .own Ri])), (12, (.box [.own Ri, .own Ri])), (13, (.own Ri)), (14, (.own Ri)), (15, .any), (16, .any), (71, .any)] (ref10_Placed_S8 v) some = (ref10_Placed_r10 C v).eval fun y => some (ref10_Placed_S10 y) := by kernel_rfl
def ref10_Placed_r11 (C : ref10_Placed_C) (v : ref10_Placed_Y10) : Dt ref10_Placed_Y5 := (Dt.ite (apB (List.length v.2.2.2.2.2.2.2.2.2.2.2.2.1) (List.length ([(v.2.1, ())] : List Di))) (Dt.ret (v.1, v.2.2.2.1, v.2.2.2.2.1, v.2.2.2.2.2.1, v.2.2.2.2.2.2.1, v.2.2.2.2.2.2.2.1, v.2.2.2.2.2.2.2.2.1, v.2.2.2.2.2.2.2.2.2.1, v.2.2.2.2.2.2.2.2.2.2.1, v.2.2.2.2.2.2.2.2.2.2.2.1, (v.2.2.2.2.2.2.2.2.2.2.2.2.1 ++ ([(v.2.1, ())] : List Di)), v.2.2.2.2.2.2.2.2.2.2.2.2.2)) Dt.fail)
theorem ref10_Placed_g11 (C : ref10_Placed_C) (v : ref10_Placed_Y10) : treg tysT (orc (ref10_Placed_tab C)) 78 (regO (bodyOf f81) 11) false [(5, (.box [.val Ri, .val Ri])), (6, (.box [.val Riii])), (7, .any), (10, (.box [.own Ri, .own Ri])), (12, (.box [.own Ri, .own Ri])), (13, (.own Ri)), (14, (.own Ri)), (15, .any)] (ref10_Placed_S10 v) some = (ref10_Placed_r11 C v).eval fun y => some (ref10_Placed_S5 y) := by kernel_rfl
def ref10_Placed_r7 (C : ref10_Placed_C) (v : ref10_Placed_Y5) : Dt ref10_Placed_Y5 := (Dt.ret ((IntKind.wrap .i64 (v.1 + (1:Int))), v.2.1, v.2.2.1, v.2.2.2.1, v.2.2.2.2.1, v.2.2.2.2.2.1, v.2.2.2.2.2.2.1, v.2.2.2.2.2.2.2.1, v.2.2.2.2.2.2.2.2.1, v.2.2.2.2.2.2.2.2.2.1, v.2.2.2.2.2.2.2.2.2.2.1, v.2.2.2.2.2.2.2.2.2.2.2))
theorem ref10_Placed_g7 (C : ref10_Placed_C) (v : ref10_Placed_Y5) : treg tysT (orc (ref10_Placed_tab C)) 78 (regO (bodyOf f81) 7) false [(5, (.box [.val Ri, .val Ri])), (6, (.box [.val Riii])), (7, .any), (10, (.box [.own Ri, .own Ri])), (12, (.box [.own Ri, .own Ri])), (13, (.own Ri)), (14, (.own Ri)), (15, .any)] (ref10_Placed_S5 v) some = (ref10_Placed_r7 C v).eval fun y => some (ref10_Placed_S5 y) := by kernel_rfl
def ref10_Placed_J2  (d : Nat) (self1 : (Int × List Di × List Di × List Diii × Int × Int × List Di × List Di × List Di × List Di × List Di × List Di) → Option ref10_Placed_R) (z : Int × List Di × List Di × List Diii × Int × Int × List Di × List Di × List Di × List Di × List Di × List Di) : Option (ref10_Placed_R) :=
  (ref10_Placed_r7 (ref10_Placed_K d) z).eval fun y7 =>
  self1 y7
abbrev ref10_Placed_Y12 : Type := List Di × List Di × List Di
def ref10_Placed_S12 (v : ref10_Placed_Y12) : St := ⟨[(10, .ptr 0 0), (11, .rs 3)], [.cells [.rs 1, .rs 2], .rows Ri v.1, .rows Ri v.2.1, .rows Ri v.2.2]⟩
def ref10_Placed_r12 (C : ref10_Placed_C) (v : ref10_Placed_Y6) : Dt ref10_Placed_Y12 := (Dt.ret (v.2.2.2.2.2.2.2.2.2.1, v.2.2.2.2.2.2.2.2.2.2.1, v.2.2.2.2.2.2.2.2.2.2.2.1))
theorem ref10_Placed_g12 (C : ref10_Placed_C) (v : ref10_Placed_Y6) : treg tysT (orc (ref10_Placed_tab C)) 78 (regO (bodyOf f81) 12) false [(10, (.box [.own Ri, .own Ri])), (11, (.own Ri))] (ref10_Placed_S6 v) some = (ref10_Placed_r12 C v).eval fun y => some (ref10_Placed_S12 y) := by kernel_rfl
def ref10_Placed_L1 (d : Nat) (self1 : (Int × List Di × List Di × List Diii × Int × Int × List Di × List Di × List Di × List Di × List Di × List Di) → Option ref10_Placed_R) (x1 : Int × List Di × List Di × List Diii × Int × Int × List Di × List Di × List Di × List Di × List Di × List Di) : Option ref10_Placed_R :=
  (ref10_Placed_r6 (ref10_Placed_K d) x1).eval fun y6 =>
  bif y6.2.1 then ((ref10_Placed_r8 (ref10_Placed_K d) y6).eval fun y8 =>
  (ref10_Placed_r9 (ref10_Placed_K d) y8).eval fun y9 =>
  (ref10_Placed_r10 (ref10_Placed_K d) y9).eval fun y10 =>
  bif y10.2.2.1 then ((ref10_Placed_r11 (ref10_Placed_K d) y10).eval fun y11 =>
  ref10_Placed_J2 d self1 y11) else (ref10_Placed_J2 d self1 (y10.1, y10.2.2.2.1, y10.2.2.2.2.1, y10.2.2.2.2.2.1, y10.2.2.2.2.2.2.1, y10.2.2.2.2.2.2.2.1, y10.2.2.2.2.2.2.2.2.1, y10.2.2.2.2.2.2.2.2.2.1, y10.2.2.2.2.2.2.2.2.2.2.1, y10.2.2.2.2.2.2.2.2.2.2.2.1, y10.2.2.2.2.2.2.2.2.2.2.2.2.1, y10.2.2.2.2.2.2.2.2.2.2.2.2.2))) else ((ref10_Placed_r12 (ref10_Placed_K d) y6).eval fun y12 =>
  some y12)
def F_ref10_Placed (d : Nat) (x : ref10_Placed_X) : Option ref10_Placed_R :=
  (ref10_Placed_r0 (ref10_Placed_K d) (x.1.1, x.1.2.1, x.2.1.1, x.2.2.1.1, x.2.2.1.2.1, x.2.2.2.1.1, x.2.2.2.2.1.1)).eval fun y0 =>
  (ref10_Placed_r1 (ref10_Placed_K d) y0).eval fun y1 =>
  (ref10_Placed_r2 (ref10_Placed_K d) y1).eval fun y2 =>
  (ref10_Placed_r3 (ref10_Placed_K d) y2).eval fun y3 =>
  (ref10_Placed_r4 (ref10_Placed_K d) y3).eval fun y4 =>
  (ref10_Placed_r5 (ref10_Placed_K d) y4).eval fun y5 =>
  iter (ref10_Placed_L1 d ) d y5
theorem ref10_Placed_cok (d : Nat) : COK prog (ref10_Placed_sp (F_ref10_Placed d)) := by
  have hm : prog.follows .mixedOrders = true := mixed
  have hT := tys
  have hC : OrcOK prog (orc (ref10_Placed_tab (ref10_Placed_K d))) := orc_ok (by
    intro S hS
    simp only [ref10_Placed_tab, List.mem_cons, List.not_mem_nil, or_false] at hS
    rcases hS with rfl | rfl | rfl
    · exact ref10_Node_cok d
    · exact ref10_Way_cok d
    · exact ref10_Won_cok d)
  refine cok_of (c := bodyOf f81) (fn := f81) hT (by kernel_rfl) (by kernel_rfl) (by decide) fun x r h w0 φ0 Q hend => ?_
  replace h : F_ref10_Placed d x = some r := h
  unfold F_ref10_Placed at h
  show Run prog w0 φ0 78 (bodyOf f81) ⟨[(0, .agg [.fz Ri x.1.1, .fz Ri x.1.2.1]), (1, .agg [.fz Riii x.2.1.1]), (2, .agg [.int .i64 x.2.2.1.1, .int .i64 x.2.2.1.2.1]), (3, .int .i64 x.2.2.2.1.1), (4, .int .i64 x.2.2.2.2.1.1)], []⟩ Q
  refine run_seq ?_
  refine run_reg hm hT hC (ref10_Placed_g0 (ref10_Placed_K d) (x.1.1, x.1.2.1, x.2.1.1, x.2.2.1.1, x.2.2.1.2.1, x.2.2.2.1.1, x.2.2.2.2.1.1)) h ?_
  intro y0 h
  refine cn_then ?_
  refine run_seq ?_
  refine run_reg hm hT hC (ref10_Placed_g1 (ref10_Placed_K d) y0) h ?_
  intro y1 h
  refine cn_then ?_
  refine run_seq ?_
  refine run_reg hm hT hC (ref10_Placed_g2 (ref10_Placed_K d) y1) h ?_
  intro y2 h
  refine cn_then ?_
  refine run_seq ?_
  refine run_reg hm hT hC (ref10_Placed_g3 (ref10_Placed_K d) y2) h ?_
  intro y3 h
  refine cn_then ?_
  refine run_seq ?_
  refine run_reg hm hT hC (ref10_Placed_g4 (ref10_Placed_K d) y3) h ?_
  intro y4 h
  refine cn_then ?_
  refine run_seq ?_
  refine run_seq ?_
  refine run_reg hm hT hC (ref10_Placed_g5 (ref10_Placed_K d) y4) h ?_
  intro y5 h
  refine cn_then ?_
  refine run_block ?_
  refine run_loop (G := iter (ref10_Placed_L1 d )) (S := (fun x1 => ⟨[(5, .ptr 0 0), (6, .ptr 1 0), (7, .ptr 2 0), (10, .ptr 3 0), (12, .ptr 6 0), (13, .rs 9), (14, .rs 10), (15, .int .i64 x1.1)], [.cells [.fz Ri x1.2.1, .fz Ri x1.2.2.1], .cells [.fz Riii x1.2.2.2.1], .cells [.int .i64 x1.2.2.2.2.1, .int .i64 x1.2.2.2.2.2.1], .cells [.rs 4, .rs 5], .rows Ri x1.2.2.2.2.2.2.1, .rows Ri x1.2.2.2.2.2.2.2.1, .cells [.rs 7, .rs 8], .rows Ri x1.2.2.2.2.2.2.2.2.1, .rows Ri x1.2.2.2.2.2.2.2.2.2.1, .rows Ri x1.2.2.2.2.2.2.2.2.2.2.1, .rows Ri x1.2.2.2.2.2.2.2.2.2.2.2]⟩ : Int × List Di × List Di × List Diii × Int × Int × List Di × List Di × List Di × List Di × List Di × List Di → St)) (fun _ => rfl) ?_ d _ h
  intro n1 x1 h K1 hn1
  replace h : ref10_Placed_L1 d  (iter (ref10_Placed_L1 d ) n1) x1 = some r := h
  generalize iter (ref10_Placed_L1 d ) n1 = self1 at h hn1
  unfold ref10_Placed_L1 at h
  refine run_seq ?_
  refine run_seq ?_
  refine run_reg hm hT hC (ref10_Placed_g6 (ref10_Placed_K d) x1) h ?_
  intro y6 h
  refine cn_then ?_
  refine run_cond (v := y6.2.1) (by kernel_rfl) h ?_ ?_
  ·
    intro h
    refine run_skip ?_
    refine cn_then ?_
    refine run_join (r := r) (F := ref10_Placed_J2 d self1) (S := (fun z => ⟨[(5, .ptr 0 0), (6, .ptr 1 0), (7, .ptr 2 0), (10, .ptr 3 0), (12, .ptr 6 0), (13, .rs 9), (14, .rs 10), (15, .int .i64 z.1)], [.cells [.fz Ri z.2.1, .fz Ri z.2.2.1], .cells [.fz Riii z.2.2.2.1], .cells [.int .i64 z.2.2.2.2.1, .int .i64 z.2.2.2.2.2.1], .cells [.rs 4, .rs 5], .rows Ri z.2.2.2.2.2.2.1, .rows Ri z.2.2.2.2.2.2.2.1, .cells [.rs 7, .rs 8], .rows Ri z.2.2.2.2.2.2.2.2.1, .rows Ri z.2.2.2.2.2.2.2.2.2.1, .rows Ri z.2.2.2.2.2.2.2.2.2.2.1, .rows Ri z.2.2.2.2.2.2.2.2.2.2.2]⟩ : Int × List Di × List Di × List Diii × Int × Int × List Di × List Di × List Di × List Di × List Di × List Di → St)) ?_ ?_
    ·
      intro z h
      unfold ref10_Placed_J2 at h
      refine run_reg hm hT hC (ref10_Placed_g7 (ref10_Placed_K d) z) h ?_
      intro y7 h
      exact hn1 _ h
    intro hj2
    refine run_block ?_
    refine run_seq ?_
    refine run_reg hm hT hC (ref10_Placed_g8 (ref10_Placed_K d) y6) h ?_
    intro y8 h
    refine cn_then ?_
    refine run_seq ?_
    refine run_reg hm hT hC (ref10_Placed_g9 (ref10_Placed_K d) y8) h ?_
    intro y9 h
    refine cn_then ?_
    refine run_seq ?_
    refine run_reg hm hT hC (ref10_Placed_g10 (ref10_Placed_K d) y9) h ?_
    intro y10 h
    refine cn_then ?_
    refine run_cond (v := y10.2.2.1) (by kernel_rfl) h ?_ ?_
    ·
      intro h
      refine run_reg hm hT hC (ref10_Placed_g11 (ref10_Placed_K d) y10) h ?_
      intro y11 h
      refine cn_blk ?_
      exact hj2 _ h
    ·
      intro h
      refine run_skip ?_
      refine cn_blk ?_
      refine cn_num (s := ⟨[(5, .ptr 0 0), (6, .ptr 1 0), (7, .ptr 2 0), (10, .ptr 3 0), (12, .ptr 6 0), (13, .rs 9), (14, .rs 10), (15, .int .i64 y10.1)], [.cells [.fz Ri y10.2.2.2.1, .fz Ri y10.2.2.2.2.1], .cells [.fz Riii y10.2.2.2.2.2.1], .cells [.int .i64 y10.2.2.2.2.2.2.1, .int .i64 y10.2.2.2.2.2.2.2.1], .cells [.rs 4, .rs 5], .rows Ri y10.2.2.2.2.2.2.2.2.1, .rows Ri y10.2.2.2.2.2.2.2.2.2.1, .cells [.rs 7, .rs 8], .rows Ri y10.2.2.2.2.2.2.2.2.2.2.1, .rows Ri y10.2.2.2.2.2.2.2.2.2.2.2.1, .rows Ri y10.2.2.2.2.2.2.2.2.2.2.2.2.1, .rows Ri y10.2.2.2.2.2.2.2.2.2.2.2.2.2]⟩) [16, 71] (by kernel_rfl) ?_
      exact hj2 _ h
  ·
    intro h
    refine run_exit ?_
    refine cn_then_exit ?_
    refine cn_then_exit ?_
    refine cn_blk_eq ?_
    refine cn_then ?_
    refine run_seq ?_
    refine run_reg hm hT hC (ref10_Placed_g12 (ref10_Placed_K d) y6) h ?_
    intro y12 h
    refine cn_then ?_
    refine run_ret ?_
    cases h
    exact (hend _ (by kernel_rfl)).2
abbrev ref10_Set_ps : List Pk := [.row RLiELiE true, .row RLiiiE true, .row Rii true, .row Ri false, .row Ri false]
abbrev ref10_Set_X : Type := DLiELiE × DLiiiE × Dii × Di × Di × Unit
abbrev ref10_Set_R : Type := List Di × List Di × List Di × Int
def ref10_Set_enc (r : ref10_Set_R) : LV × List Ob := (.tup [.agg [.rs 0, .rs 1], .rs 2, .int .i64 r.2.2.2], [.rows Ri r.1, .rows Ri r.2.1, .rows Ri r.2.2.1])
def ref10_Set_sp (F : ref10_Set_X → Option ref10_Set_R) : Go.Tx.Spec := ⟨32, ref10_Set_ps, ref10_Set_R, F, ref10_Set_enc⟩
abbrev ref10_Set_C : Type := (ref10_Check_X → Option ref10_Check_R) × (ref03_Timed_X → Option ref03_Timed_R) × (ref10_Known_X → Option ref10_Known_R) × (ref10_Twice_X → Option ref10_Twice_R) × (ref10_Placed_X → Option ref10_Placed_R) × Unit
def ref10_Set_K (d : Nat) : ref10_Set_C := (F_ref10_Check d, F_ref03_Timed d, F_ref10_Known d, F_ref10_Twice d, F_ref10_Placed d, ())
def ref10_Set_tab (C : ref10_Set_C) : List Go.Tx.Spec := [ref10_Check_sp C.1, ref03_Timed_sp C.2.1, ref10_Known_sp C.2.2.1, ref10_Twice_sp C.2.2.2.1, ref10_Placed_sp C.2.2.2.2.1]
abbrev ref10_Set_Y0i : Type := List Di × List Di × List Diii × Int × Int × Int × Int
def ref10_Set_S0i (v : ref10_Set_Y0i) : St := ⟨[(0, .agg [.fz Ri v.1, .fz Ri v.2.1]), (1, .agg [.fz Riii v.2.2.1]), (2, .agg [.int .i64 v.2.2.2.1, .int .i64 v.2.2.2.2.1]), (3, .int .i64 v.2.2.2.2.2.1), (4, .int .i64 v.2.2.2.2.2.2)], []⟩
abbrev ref10_Set_Y0 : Type := Int × Int × List Di × List Di × List Diii × Int × Int × List Di × List Di
def ref10_Set_S0 (v : ref10_Set_Y0) : St := ⟨[(3, .int .i64 v.1), (4, .int .i64 v.2.1), (5, .ptr 0 0), (6, .ptr 1 0), (7, .ptr 2 0), (10, .ptr 3 0)], [.cells [.fz Ri v.2.2.1, .fz Ri v.2.2.2.1], .cells [.fz Riii v.2.2.2.2.1], .cells [.int .i64 v.2.2.2.2.2.1, .int .i64 v.2.2.2.2.2.2.1], .cells [.rs 4, .rs 5], .rows Ri v.2.2.2.2.2.2.2.1, .rows Ri v.2.2.2.2.2.2.2.2]⟩
def ref10_Set_r0 (C : ref10_Set_C) (v : ref10_Set_Y0i) : Dt ref10_Set_Y0 := (Dt.ret (v.2.2.2.2.2.1, v.2.2.2.2.2.2, v.1, v.2.1, v.2.2.1, v.2.2.2.1, v.2.2.2.2.1, ([] : List Di), ([] : List Di)))
theorem ref10_Set_g0 (C : ref10_Set_C) (v : ref10_Set_Y0i) : treg tysT (orc (ref10_Set_tab C)) 65 (regO (bodyOf f32) 0) false [(3, .any), (4, .any), (5, (.box [.val Ri, .val Ri])), (6, (.box [.val Riii])), (7, .any), (10, (.box [.own Ri, .own Ri]))] (ref10_Set_S0i v) some = (ref10_Set_r0 C v).eval fun y => some (ref10_Set_S0 y) := by kernel_rfl
abbrev ref10_Set_Y1 : Type := Int × Int × Bool × List Di × List Di × List Diii × Int × Int × List Di × List Di
def ref10_Set_S1 (v : ref10_Set_Y1) : St := ⟨[(3, .int .i64 v.1), (4, .int .i64 v.2.1), (5, .ptr 0 0), (6, .ptr 1 0), (7, .ptr 2 0), (10, .ptr 3 0), (19, .bool v.2.2.1)], [.cells [.fz Ri v.2.2.2.1, .fz Ri v.2.2.2.2.1], .cells [.fz Riii v.2.2.2.2.2.1], .cells [.int .i64 v.2.2.2.2.2.2.1, .int .i64 v.2.2.2.2.2.2.2.1], .cells [.rs 4, .rs 5], .rows Ri v.2.2.2.2.2.2.2.2.1, .rows Ri v.2.2.2.2.2.2.2.2.2]⟩
def ref10_Set_r1 (C : ref10_Set_C) (v : ref10_Set_Y0) : Dt ref10_Set_Y1 := (Dt.bnd (C.1 ((v.2.2.1, v.2.2.2.1, ()), ())) fun r1 => (Dt.ret (v.1, v.2.1, (r1 != (0:Int)), v.2.2.1, v.2.2.2.1, v.2.2.2.2.1, v.2.2.2.2.2.1, v.2.2.2.2.2.2.1, v.2.2.2.2.2.2.2.1, v.2.2.2.2.2.2.2.2)))
theorem ref10_Set_g1 (C : ref10_Set_C) (v : ref10_Set_Y0) : treg tysT (orc (ref10_Set_tab C)) 65 (regO (bodyOf f32) 1) false [(3, .any), (4, .any), (5, (.box [.val Ri, .val Ri])), (6, (.box [.val Riii])), (7, .any), (10, (.box [.own Ri, .own Ri])), (19, .any)] (ref10_Set_S0 v) some = (ref10_Set_r1 C v).eval fun y => some (ref10_Set_S1 y) := by kernel_rfl
abbrev ref10_Set_Y2 : Type := Int × List Di × List Di × List Di
def ref10_Set_S2 (v : ref10_Set_Y2) : St := ⟨[(10, .ptr 0 0), (11, .rs 3), (12, .int .i64 v.1)], [.cells [.rs 1, .rs 2], .rows Ri v.2.1, .rows Ri v.2.2.1, .rows Ri v.2.2.2]⟩
def ref10_Set_r2 (C : ref10_Set_C) (v : ref10_Set_Y1) : Dt ref10_Set_Y2 := (Dt.ret ((8:Int), ([] : List Di), ([] : List Di), ([] : List Di)))
theorem ref10_Set_g2 (C : ref10_Set_C) (v : ref10_Set_Y1) : treg tysT (orc (ref10_Set_tab C)) 65 (regO (bodyOf f32) 2) false [(10, (.box [.own Ri, .own Ri])), (11, (.own Ri)), (12, .any)] (ref10_Set_S1 v) some = (ref10_Set_r2 C v).eval fun y => some (ref10_Set_S2 y) := by kernel_rfl
abbrev ref10_Set_Y3 : Type := Int × Int × Int × List Di × List Di × List Diii × Int × Int × List Di × List Di
def ref10_Set_S3 (v : ref10_Set_Y3) : St := ⟨[(3, .int .i64 v.1), (4, .int .i64 v.2.1), (5, .ptr 0 0), (6, .ptr 1 0), (7, .ptr 2 0), (10, .ptr 3 0), (13, .int .i64 v.2.2.1)], [.cells [.fz Ri v.2.2.2.1, .fz Ri v.2.2.2.2.1], .cells [.fz Riii v.2.2.2.2.2.1], .cells [.int .i64 v.2.2.2.2.2.2.1, .int .i64 v.2.2.2.2.2.2.2.1], .cells [.rs 4, .rs 5], .rows Ri v.2.2.2.2.2.2.2.2.1, .rows Ri v.2.2.2.2.2.2.2.2.2]⟩
def ref10_Set_r3 (C : ref10_Set_C) (v : ref10_Set_Y1) : Dt ref10_Set_Y3 := (Dt.bnd (C.2.1 ((v.2.2.2.2.2.1, ()), (v.2.2.2.2.2.2.1, v.2.2.2.2.2.2.2.1, ()), ())) fun r1 => (Dt.ret (v.1, v.2.1, r1, v.2.2.2.1, v.2.2.2.2.1, v.2.2.2.2.2.1, v.2.2.2.2.2.2.1, v.2.2.2.2.2.2.2.1, v.2.2.2.2.2.2.2.2.1, v.2.2.2.2.2.2.2.2.2)))
theorem ref10_Set_g3 (C : ref10_Set_C) (v : ref10_Set_Y1) : treg tysT (orc (ref10_Set_tab C)) 65 (regO (bodyOf f32) 3) false [(3, .any), (4, .any), (5, (.box [.val Ri, .val Ri])), (6, (.box [.val Riii])), (7, .any), (10, (.box [.own Ri, .own Ri])), (13, .any)] (ref10_Set_S1 v) some = (ref10_Set_r3 C v).eval fun y => some (ref10_Set_S3 y) := by kernel_rfl
abbrev ref10_Set_Y4 : Type := Int × Int × Int × Bool × List Di × List Di × List Diii × Int × Int × List Di × List Di
def ref10_Set_S4 (v : ref10_Set_Y4) : St := ⟨[(3, .int .i64 v.1), (4, .int .i64 v.2.1), (5, .ptr 0 0), (6, .ptr 1 0), (7, .ptr 2 0), (10, .ptr 3 0), (13, .int .i64 v.2.2.1), (25, .bool v.2.2.2.1)], [.cells [.fz Ri v.2.2.2.2.1, .fz Ri v.2.2.2.2.2.1], .cells [.fz Riii v.2.2.2.2.2.2.1], .cells [.int .i64 v.2.2.2.2.2.2.2.1, .int .i64 v.2.2.2.2.2.2.2.2.1], .cells [.rs 4, .rs 5], .rows Ri v.2.2.2.2.2.2.2.2.2.1, .rows Ri v.2.2.2.2.2.2.2.2.2.2]⟩
def ref10_Set_r4 (C : ref10_Set_C) (v : ref10_Set_Y3) : Dt ref10_Set_Y4 := (Dt.ret (v.1, v.2.1, v.2.2.1, (v.2.2.1 != (0:Int)), v.2.2.2.1, v.2.2.2.2.1, v.2.2.2.2.2.1, v.2.2.2.2.2.2.1, v.2.2.2.2.2.2.2.1, v.2.2.2.2.2.2.2.2.1, v.2.2.2.2.2.2.2.2.2))
theorem ref10_Set_g4 (C : ref10_Set_C) (v : ref10_Set_Y3) : treg tysT (orc (ref10_Set_tab C)) 65 (regO (bodyOf f32) 4) false [(3, .any), (4, .any), (5, (.box [.val Ri, .val Ri])), (6, (.box [.val Riii])), (7, .any), (10, (.box [.own Ri, .own Ri])), (13, .any), (25, .any)] (ref10_Set_S3 v) some = (ref10_Set_r4 C v).eval fun y => some (ref10_Set_S4 y) := by kernel_rfl
def ref10_Set_r5 (C : ref10_Set_C) (v : ref10_Set_Y4) : Dt ref10_Set_Y2 := (Dt.ret (v.2.2.1, ([] : List Di), ([] : List Di), ([] : List Di)))
theorem ref10_Set_g5 (C : ref10_Set_C) (v : ref10_Set_Y4) : treg tysT (orc (ref10_Set_tab C)) 65 (regO (bodyOf f32) 5) false [(10, (.box [.own Ri, .own Ri])), (11, (.own Ri)), (12, .any)] (ref10_Set_S4 v) some = (ref10_Set_r5 C v).eval fun y => some (ref10_Set_S2 y) := by kernel_rfl
abbrev ref10_Set_Y6 : Type := Int × Int × Bool × List Di × List Di × List Diii × Int × Int × List Di × List Di
def ref10_Set_S6 (v : ref10_Set_Y6) : St := ⟨[(3, .int .i64 v.1), (4, .int .i64 v.2.1), (5, .ptr 0 0), (6, .ptr 1 0), (7, .ptr 2 0), (10, .ptr 3 0), (36, .bool v.2.2.1)], [.cells [.fz Ri v.2.2.2.1, .fz Ri v.2.2.2.2.1], .cells [.fz Riii v.2.2.2.2.2.1], .cells [.int .i64 v.2.2.2.2.2.2.1, .int .i64 v.2.2.2.2.2.2.2.1], .cells [.rs 4, .rs 5], .rows Ri v.2.2.2.2.2.2.2.2.1, .rows Ri v.2.2.2.2.2.2.2.2.2]⟩
def ref10_Set_r6 (C : ref10_Set_C) (v : ref10_Set_Y4) : Dt ref10_Set_Y6 := (Dt.ite (decide (v.1 < (0:Int))) (Dt.ret (v.1, v.2.1, true, v.2.2.2.2.1, v.2.2.2.2.2.1, v.2.2.2.2.2.2.1, v.2.2.2.2.2.2.2.1, v.2.2.2.2.2.2.2.2.1, v.2.2.2.2.2.2.2.2.2.1, v.2.2.2.2.2.2.2.2.2.2)) (Dt.ret (v.1, v.2.1, (decide (v.1 ≥ (List.length v.2.2.2.2.1 : Int))), v.2.2.2.2.1, v.2.2.2.2.2.1, v.2.2.2.2.2.2.1, v.2.2.2.2.2.2.2.1, v.2.2.2.2.2.2.2.2.1, v.2.2.2.2.2.2.2.2.2.1, v.2.2.2.2.2.2.2.2.2.2)))
theorem ref10_Set_g6 (C : ref10_Set_C) (v : ref10_Set_Y4) : treg tysT (orc (ref10_Set_tab C)) 65 (regO (bodyOf f32) 6) false [(3, .any), (4, .any), (5, (.box [.val Ri, .val Ri])), (6, (.box [.val Riii])), (7, .any), (10, (.box [.own Ri, .own Ri])), (36, .any)] (ref10_Set_S4 v) some = (ref10_Set_r6 C v).eval fun y => some (ref10_Set_S6 y) := by kernel_rfl
def ref10_Set_r7 (C : ref10_Set_C) (v : ref10_Set_Y6) : Dt ref10_Set_Y2 := (Dt.ret ((2:Int), ([] : List Di), ([] : List Di), ([] : List Di)))
theorem ref10_Set_g7 (C : ref10_Set_C) (v : ref10_Set_Y6) : treg tysT (orc (ref10_Set_tab C)) 65 (regO (bodyOf f32) 7) false [(10, (.box [.own Ri, .own Ri])), (11, (.own Ri)), (12, .any)] (ref10_Set_S6 v) some = (ref10_Set_r7 C v).eval fun y => some (ref10_Set_S2 y) := by kernel_rfl
abbrev ref10_Set_Y8 : Type := Int × Int × List Di × List Di × List Diii × Int × Int × List Di × List Di × List Di
def ref10_Set_S8 (v : ref10_Set_Y8) : St := ⟨[(3, .int .i64 v.1), (4, .int .i64 v.2.1), (5, .ptr 0 0), (6, .ptr 1 0), (7, .ptr 2 0), (10, .ptr 3 0), (14, .rs 6)], [.cells [.fz Ri v.2.2.1, .fz Ri v.2.2.2.1], .cells [.fz Riii v.2.2.2.2.1], .cells [.int .i64 v.2.2.2.2.2.1, .int .i64 v.2.2.2.2.2.2.1], .cells [.rs 4, .rs 5], .rows Ri v.2.2.2.2.2.2.2.1, .rows Ri v.2.2.2.2.2.2.2.2.1, .rows Ri v.2.2.2.2.2.2.2.2.2]⟩
def ref10_Set_r8 (C : ref10_Set_C) (v : ref10_Set_Y6) : Dt ref10_Set_Y8 := (Dt.ite (apB (List.length ([] : List Di)) (List.length v.2.2.2.1)) (Dt.ret (v.1, v.2.1, v.2.2.2.1, v.2.2.2.2.1, v.2.2.2.2.2.1, v.2.2.2.2.2.2.1, v.2.2.2.2.2.2.2.1, v.2.2.2.2.2.2.2.2.1, v.2.2.2.2.2.2.2.2.2, (([] : List Di) ++ v.2.2.2.1))) Dt.fail)
theorem ref10_Set_g8 (C : ref10_Set_C) (v : ref10_Set_Y6) : treg tysT (orc (ref10_Set_tab C)) 65 (regO (bodyOf f32) 8) false [(3, .any), (4, .any), (5, (.box [.val Ri, .val Ri])), (6, (.box [.val Riii])), (7, .any), (10, (.box [.own Ri, .own Ri])), (14, (.own Ri))] (ref10_Set_S6 v) some = (ref10_Set_r8 C v).eval fun y => some (ref10_Set_S8 y) := by kernel_rfl
def ref10_Set_r9 (C : ref10_Set_C) (v : ref10_Set_Y8) : Dt ref10_Set_Y8 := (Dt.ite (inB v.1 (List.length v.2.2.2.2.2.2.2.2.2)) (Dt.ret (v.1, v.2.1, v.2.2.1, v.2.2.2.1, v.2.2.2.2.1, v.2.2.2.2.2.1, v.2.2.2.2.2.2.1, v.2.2.2.2.2.2.2.1, v.2.2.2.2.2.2.2.2.1, (List.set v.2.2.2.2.2.2.2.2.2 (v.1).toNat (v.2.1, ())))) Dt.fail)
theorem ref10_Set_g9 (C : ref10_Set_C) (v : ref10_Set_Y8) : treg tysT (orc (ref10_Set_tab C)) 65 (regO (bodyOf f32) 9) false [(3, .any), (4, .any), (5, (.box [.val Ri, .val Ri])), (6, (.box [.val Riii])), (7, .any), (10, (.box [.own Ri, .own Ri])), (14, (.own Ri))] (ref10_Set_S8 v) some = (ref10_Set_r9 C v).eval fun y => some (ref10_Set_S8 y) := by kernel_rfl
abbrev ref10_Set_Y10 : Type := Int × Int × Bool × List Di × List Di × List Diii × Int × Int × List Di × List Di × List Di
def ref10_Set_S10 (v : ref10_Set_Y10) : St := ⟨[(3, .int .i64 v.1), (4, .int .i64 v.2.1), (5, .ptr 0 0), (6, .ptr 1 0), (7, .ptr 2 0), (10, .ptr 3 0), (14, .rs 6), (49, .bool v.2.2.1)], [.cells [.fz Ri v.2.2.2.1, .fz Ri v.2.2.2.2.1], .cells [.fz Riii v.2.2.2.2.2.1], .cells [.int .i64 v.2.2.2.2.2.2.1, .int .i64 v.2.2.2.2.2.2.2.1], .cells [.rs 4, .rs 5], .rows Ri v.2.2.2.2.2.2.2.2.1, .rows Ri v.2.2.2.2.2.2.2.2.2.1, .rows Ri v.2.2.2.2.2.2.2.2.2.2]⟩
def ref10_Set_r10 (C : ref10_Set_C) (v : ref10_Set_Y8) : Dt ref10_Set_Y10 := (Dt.bnd (C.2.2.1 ((v.2.2.2.2.1, ()), (v.2.2.2.2.2.2.2.2.2, ()), ())) fun r1 => (Dt.ret (v.1, v.2.1, (!r1), v.2.2.1, v.2.2.2.1, v.2.2.2.2.1, v.2.2.2.2.2.1, v.2.2.2.2.2.2.1, v.2.2.2.2.2.2.2.1, v.2.2.2.2.2.2.2.2.1, v.2.2.2.2.2.2.2.2.2)))
theorem ref10_Set_g10 (C : ref10_Set_C) (v : ref10_Set_Y8) : treg tysT (orc (ref10_Set_tab C)) 65 (regO (bodyOf f32) 10) false [(3, .any), (4, .any), (5, (.box [.val Ri, .val Ri])), (6, (.box [.val Riii])), (7, .any), (10, (.box [.own Ri, .own Ri])), (14, (.own Ri)), (49, .any)] (ref10_Set_S8 v) some = (ref10_Set_r10 C v).eval fun y => some (ref10_Set_S10 y) := by kernel_rfl
def ref10_Set_r11 (C : ref10_Set_C) (v : ref10_Set_Y10) : Dt ref10_Set_Y2 := (Dt.ret ((6:Int), ([] : List Di), ([] : List Di), ([] : List Di)))
theorem ref10_Set_g11 (C : ref10_Set_C) (v : ref10_Set_Y10) : treg tysT (orc (ref10_Set_tab C)) 65 (regO (bodyOf f32) 11) false [(10, (.box [.own Ri, .own Ri])), (11, (.own Ri)), (12, .any)] (ref10_Set_S10 v) some = (ref10_Set_r11 C v).eval fun y => some (ref10_Set_S2 y) := by kernel_rfl
abbrev ref10_Set_Y12 : Type := Int × Int × Bool × List Di × List Di × List Diii × Int × Int × List Di × List Di
def ref10_Set_S12 (v : ref10_Set_Y12) : St := ⟨[(3, .int .i64 v.1), (4, .int .i64 v.2.1), (5, .ptr 0 0), (6, .ptr 1 0), (7, .ptr 2 0), (10, .ptr 3 0), (52, .bool v.2.2.1)], [.cells [.fz Ri v.2.2.2.1, .fz Ri v.2.2.2.2.1], .cells [.fz Riii v.2.2.2.2.2.1], .cells [.int .i64 v.2.2.2.2.2.2.1, .int .i64 v.2.2.2.2.2.2.2.1], .cells [.rs 4, .rs 5], .rows Ri v.2.2.2.2.2.2.2.2.1, .rows Ri v.2.2.2.2.2.2.2.2.2]⟩
def ref10_Set_r12 (C : ref10_Set_C) (v : ref10_Set_Y10) : Dt ref10_Set_Y12 := (Dt.bnd (C.2.2.2.1 ((v.2.2.2.2.2.2.2.2.2.2, ()), ())) fun r1 => (Dt.ret (v.1, v.2.1, r1, v.2.2.2.1, v.2.2.2.2.1, v.2.2.2.2.2.1, v.2.2.2.2.2.2.1, v.2.2.2.2.2.2.2.1, v.2.2.2.2.2.2.2.2.1, v.2.2.2.2.2.2.2.2.2.1)))
theorem ref10_Set_g12 (C : ref10_Set_C) (v : ref10_Set_Y10) : treg tysT (orc (ref10_Set_tab C)) 65 (regO (bodyOf f32) 12) false [(3, .any), (4, .any), (5, (.box [.val Ri, .val Ri])), (6, (.box [.val Riii])), (7, .any), (10, (.box [.own Ri, .own Ri])), (52, .any)] (ref10_Set_S10 v) some = (ref10_Set_r12 C v).eval fun y => some (ref10_Set_S12 y) := by kernel_rfl
def ref10_Set_r13 (C : ref10_Set_C) (v : ref10_Set_Y12) : Dt ref10_Set_Y2 := (Dt.ret ((14:Int), ([] : List Di), ([] : List Di), ([] : List Di)))
theorem ref10_Set_g13 (C : ref10_Set_C) (v : ref10_Set_Y12) : treg tysT (orc (ref10_Set_tab C)) 65 (regO (bodyOf f32) 13) false [(10, (.box [.own Ri, .own Ri])), (11, (.own Ri)), (12, .any)] (ref10_Set_S12 v) some = (ref10_Set_r13 C v).eval fun y => some (ref10_Set_S2 y) := by kernel_rfl
abbrev ref10_Set_Y14 : Type := List Di × List Di × List Di × List Di × List Di
def ref10_Set_S14 (v : ref10_Set_Y14) : St := ⟨[(10, .ptr 0 0), (15, .ptr 3 0), (16, .rs 6)], [.cells [.rs 1, .rs 2], .rows Ri v.1, .rows Ri v.2.1, .cells [.rs 4, .rs 5], .rows Ri v.2.2.1, .rows Ri v.2.2.2.1, .rows Ri v.2.2.2.2]⟩
def ref10_Set_r14 (C : ref10_Set_C) (v : ref10_Set_Y12) : Dt ref10_Set_Y14 := (Dt.bnd (C.2.2.2.2.1 ((v.2.2.2.1, v.2.2.2.2.1, ()), (v.2.2.2.2.2.1, ()), (v.2.2.2.2.2.2.1, v.2.2.2.2.2.2.2.1, ()), (v.1, ()), (v.2.1, ()), ())) fun r1 => (Dt.ret (v.2.2.2.2.2.2.2.2.1, v.2.2.2.2.2.2.2.2.2, r1.1, r1.2.1, r1.2.2)))
theorem ref10_Set_g14 (C : ref10_Set_C) (v : ref10_Set_Y12) : treg tysT (orc (ref10_Set_tab C)) 65 (regO (bodyOf f32) 14) false [(10, (.box [.own Ri, .own Ri])), (15, (.box [.own Ri, .own Ri])), (16, (.own Ri))] (ref10_Set_S12 v) some = (ref10_Set_r14 C v).eval fun y => some (ref10_Set_S14 y) := by kernel_rfl
def ref10_Set_r15 (C : ref10_Set_C) (v : ref10_Set_Y14) : Dt ref10_Set_Y2 := (Dt.ret ((0:Int), v.2.2.1, v.2.2.2.1, v.2.2.2.2))
theorem ref10_Set_g15 (C : ref10_Set_C) (v : ref10_Set_Y14) : treg tysT (orc (ref10_Set_tab C)) 65 (regO (bodyOf f32) 15) false [(10, (.box [.own Ri, .own Ri])), (11, (.own Ri)), (12, .any)] (ref10_Set_S14 v) some = (ref10_Set_r15 C v).eval fun y => some (ref10_Set_S2 y) := by kernel_rfl
def F_ref10_Set (d : Nat) (x : ref10_Set_X) : Option ref10_Set_R :=
  (ref10_Set_r0 (ref10_Set_K d) (x.1.1, x.1.2.1, x.2.1.1, x.2.2.1.1, x.2.2.1.2.1, x.2.2.2.1.1, x.2.2.2.2.1.1)).eval fun y0 =>
  (ref10_Set_r1 (ref10_Set_K d) y0).eval fun y1 =>
  bif y1.2.2.1 then ((ref10_Set_r2 (ref10_Set_K d) y1).eval fun y2 =>
  some (y2.2.1, y2.2.2.1, y2.2.2.2, y2.1)) else ((ref10_Set_r3 (ref10_Set_K d) y1).eval fun y3 =>
  (ref10_Set_r4 (ref10_Set_K d) y3).eval fun y4 =>
  bif y4.2.2.2.1 then ((ref10_Set_r5 (ref10_Set_K d) y4).eval fun y5 =>
  some (y5.2.1, y5.2.2.1, y5.2.2.2, y5.1)) else ((ref10_Set_r6 (ref10_Set_K d) y4).eval fun y6 =>
  bif y6.2.2.1 then ((ref10_Set_r7 (ref10_Set_K d) y6).eval fun y7 =>
  some (y7.2.1, y7.2.2.1, y7.2.2.2, y7.1)) else ((ref10_Set_r8 (ref10_Set_K d) y6).eval fun y8 =>
  (ref10_Set_r9 (ref10_Set_K d) y8).eval fun y9 =>
  (ref10_Set_r10 (ref10_Set_K d) y9).eval fun y10 =>
  bif y10.2.2.1 then ((ref10_Set_r11 (ref10_Set_K d) y10).eval fun y11 =>
  some (y11.2.1, y11.2.2.1, y11.2.2.2, y11.1)) else ((ref10_Set_r12 (ref10_Set_K d) y10).eval fun y12 =>
  bif y12.2.2.1 then ((ref10_Set_r13 (ref10_Set_K d) y12).eval fun y13 =>
  some (y13.2.1, y13.2.2.1, y13.2.2.2, y13.1)) else ((ref10_Set_r14 (ref10_Set_K d) y12).eval fun y14 =>
  (ref10_Set_r15 (ref10_Set_K d) y14).eval fun y15 =>
  some (y15.2.1, y15.2.2.1, y15.2.2.2, y15.1))))))
theorem ref10_Set_cok (d : Nat) : COK prog (ref10_Set_sp (F_ref10_Set d)) := by
  have hm : prog.follows .mixedOrders = true := mixed
  have hT := tys
  have hC : OrcOK prog (orc (ref10_Set_tab (ref10_Set_K d))) := orc_ok (by
    intro S hS
    simp only [ref10_Set_tab, List.mem_cons, List.not_mem_nil, or_false] at hS
    rcases hS with rfl | rfl | rfl | rfl | rfl
    · exact ref10_Check_cok d
    · exact ref03_Timed_cok d
    · exact ref10_Known_cok d
    · exact ref10_Twice_cok d
    · exact ref10_Placed_cok d)
  refine cok_of (c := bodyOf f32) (fn := f32) hT (by kernel_rfl) (by kernel_rfl) (by decide) fun x r h w0 φ0 Q hend => ?_
  replace h : F_ref10_Set d x = some r := h
  unfold F_ref10_Set at h
  show Run prog w0 φ0 65 (bodyOf f32) ⟨[(0, .agg [.fz Ri x.1.1, .fz Ri x.1.2.1]), (1, .agg [.fz Riii x.2.1.1]), (2, .agg [.int .i64 x.2.2.1.1, .int .i64 x.2.2.1.2.1]), (3, .int .i64 x.2.2.2.1.1), (4, .int .i64 x.2.2.2.2.1.1)], []⟩ Q
  refine run_seq ?_
  refine run_reg hm hT hC (ref10_Set_g0 (ref10_Set_K d) (x.1.1, x.1.2.1, x.2.1.1, x.2.2.1.1, x.2.2.1.2.1, x.2.2.2.1.1, x.2.2.2.2.1.1)) h ?_
  intro y0 h
  refine cn_then ?_
  refine run_seq ?_
  refine run_seq ?_
  refine run_reg hm hT hC (ref10_Set_g1 (ref10_Set_K d) y0) h ?_
  intro y1 h
  refine cn_then ?_
  refine run_cond (v := y1.2.2.1) (by kernel_rfl) h ?_ ?_
  ·
    intro h
    refine run_seq ?_
    refine run_reg hm hT hC (ref10_Set_g2 (ref10_Set_K d) y1) h ?_
    intro y2 h
    refine cn_then ?_
    refine run_ret ?_
    refine cn_then_ret ?_
    cases h
    exact (hend _ (by kernel_rfl)).2
  ·
    intro h
    refine run_skip ?_
    refine cn_then ?_
    refine run_seq ?_
    refine run_seq ?_
    refine run_reg hm hT hC (ref10_Set_g3 (ref10_Set_K d) y1) h ?_
    intro y3 h
    refine cn_then ?_
    refine run_seq ?_
    refine run_reg hm hT hC (ref10_Set_g4 (ref10_Set_K d) y3) h ?_
    intro y4 h
    refine cn_then ?_
    refine run_cond (v := y4.2.2.2.1) (by kernel_rfl) h ?_ ?_
    ·
      intro h
      refine run_seq ?_
      refine run_reg hm hT hC (ref10_Set_g5 (ref10_Set_K d) y4) h ?_
      intro y5 h
      refine cn_then ?_
      refine run_ret ?_
      refine cn_then_ret ?_
      cases h
      exact (hend _ (by kernel_rfl)).2
    ·
      intro h
      refine run_skip ?_
      refine cn_then ?_
      refine run_seq ?_
      refine run_seq ?_
      refine run_reg hm hT hC (ref10_Set_g6 (ref10_Set_K d) y4) h ?_
      intro y6 h
      refine cn_then ?_
      refine run_cond (v := y6.2.2.1) (by kernel_rfl) h ?_ ?_
      ·
        intro h
        refine run_seq ?_
        refine run_reg hm hT hC (ref10_Set_g7 (ref10_Set_K d) y6) h ?_
        intro y7 h
        refine cn_then ?_
        refine run_ret ?_
        refine cn_then_ret ?_
        cases h
        exact (hend _ (by kernel_rfl)).2
      ·
        intro h
        refine run_skip ?_
        refine cn_then ?_
        refine run_seq ?_
        refine run_reg hm hT hC (ref10_Set_g8 (ref10_Set_K d) y6) h ?_
        intro y8 h
        refine cn_then ?_
        refine run_seq ?_
        refine run_reg hm hT hC (ref10_Set_g9 (ref10_Set_K d) y8) h ?_
        intro y9 h
        refine cn_then ?_
        refine run_seq ?_
        refine run_seq ?_
        refine run_reg hm hT hC (ref10_Set_g10 (ref10_Set_K d) y9) h ?_
        intro y10 h
        refine cn_then ?_
        refine run_cond (v := y10.2.2.1) (by kernel_rfl) h ?_ ?_
        ·
          intro h
          refine run_seq ?_
          refine run_reg hm hT hC (ref10_Set_g11 (ref10_Set_K d) y10) h ?_
          intro y11 h
          refine cn_then ?_
          refine run_ret ?_
          refine cn_then_ret ?_
          cases h
          exact (hend _ (by kernel_rfl)).2
        ·
          intro h
          refine run_skip ?_
          refine cn_then ?_
          refine run_seq ?_
          refine run_seq ?_
          refine run_reg hm hT hC (ref10_Set_g12 (ref10_Set_K d) y10) h ?_
          intro y12 h
          refine cn_then ?_
          refine run_cond (v := y12.2.2.1) (by kernel_rfl) h ?_ ?_
          ·
            intro h
            refine run_seq ?_
            refine run_reg hm hT hC (ref10_Set_g13 (ref10_Set_K d) y12) h ?_
            intro y13 h
            refine cn_then ?_
            refine run_ret ?_
            refine cn_then_ret ?_
            cases h
            exact (hend _ (by kernel_rfl)).2
          ·
            intro h
            refine run_skip ?_
            refine cn_then ?_
            refine run_seq ?_
            refine run_reg hm hT hC (ref10_Set_g14 (ref10_Set_K d) y12) h ?_
            intro y14 h
            refine cn_then ?_
            refine run_seq ?_
            refine run_reg hm hT hC (ref10_Set_g15 (ref10_Set_K d) y14) h ?_
            intro y15 h
            refine cn_then ?_
            refine run_ret ?_
            cases h
            exact (hend _ (by kernel_rfl)).2
end Go.Proofs.Ytkcpnclgcmnlcaa

namespace Go.Proofs.Ytkcpnclgcmnlcaa
open Go Go.Tx Go.Pel Go.Proofs.Try
theorem rnode_eq (d : Nat) (P W : List Int) (i : Nat) (hi : i < W.length + P.length) (hP : P.length ≤ 1000) (hW : W.length ≤ 1000) : F_ref10_Node d ((unI P, unI W, ()), ((i : Int), ()), ()) = some (nodeV P W i) := by
  have e1 : IntKind.wrap .i64 ((i : Int) - ((unI W).length : Int)) = (i : Int) - (W.length : Int) := by rw [unI_len]; exact wr64 (by omega) (by omega)
  by_cases h : i < W.length
  · have h1 : decide ((i : Int) < ((unI W).length : Int)) = true := decide_eq_true (by rw [unI_len]; omega)
    have h2 : inB (i : Int) (unI W).length = true := inB_t (by omega) (by rw [unI_len]; omega)
    simp only [F_ref10_Node, ref10_Node_r0, ref10_Node_r1, ref10_Node_r2, Dt.eval, h1, h2, cond_true, cond_false, Int.toNat_natCast, elt_unI, ref10_Node_K]
    unfold nodeV; rw [if_pos h]
  · have h1 : decide ((i : Int) < ((unI W).length : Int)) = false := decide_eq_false (by rw [unI_len]; omega)
    have h2 : inB ((i : Int) - (W.length : Int)) (unI P).length = true := inB_t (by omega) (by rw [unI_len]; omega)
    have h3 : ((i : Int) - (W.length : Int)).toNat = i - W.length := by omega
    simp only [F_ref10_Node, ref10_Node_r0, ref10_Node_r1, ref10_Node_r3, Dt.eval, e1, h1, h2, h3, cond_true, cond_false, elt_unI, ref10_Node_K]
    unfold nodeV; rw [if_neg h]
theorem rwon_eq (d : Nat) (l : List Pt) (n m x y : Int) (hN : i64B n = true) (hD : i64B m = true) (ht : timed l n m = 0) (hx : Ok l x) (hy : Ok l y) : F_ref10_Won d ((toPs l, ()), (n, m, ()), (x, ()), (y, ()), ()) = some (wonV l n m x y) := by
  rw [F_ref10_Won_eq _ _ (by unfold ref10_Won_if; simp only [ptsL_toP, hN, hD, ht, decide_true, (ok_or hx).2, (ok_or hy).2, Bool.and_self])]; simp only [ptsL_toP]
theorem rway_loop (d : Nat) : ∀ (q f : Nat) (O : List Int), q + 1 ≤ f → O.length + q ≤ 2000 → iter (ref10_Way_L1 d) f ((q : Int), unI O) = some (unI (O ++ wayI q)) := by
  intro q
  induction q using Nat.strongRecOn with
  | _ q ih =>
    intro f O hf hO
    obtain ⟨f, rfl⟩ : ∃ g, f = g + 1 := ⟨f - 1, by omega⟩
    rw [iter]
    cases q with
    | zero =>
      rw [wayI_zero, List.append_nil]
      simp only [ref10_Way_L1, ref10_Way_r3, ref10_Way_r6, Dt.eval, show decide (((0 : Nat) : Int) > (0 : Int)) = false from rfl, cond_false, ref10_Way_K]
    | succ q =>
      have e1 : decide (((q + 1 : Nat) : Int) > (0 : Int)) = true := decide_eq_true (by omega)
      have e2 : IntKind.wrap .i64 (((q + 1 : Nat) : Int) - (1 : Int)) = (q : Int) := by rw [wr64 (by omega) (by omega)]; omega
      have e3 : IntKind.wrap .i64 (Int.tdiv (q : Int) (2 : Int)) = ((q / 2 : Nat) : Int) := by rw [Int.tdiv_eq_ediv_of_nonneg (by omega), wr64 (by omega) (by omega)]; omega
      have e4 : apB (unI O).length ([(((q / 2 : Nat) : Int), ())] : List Di).length = true := apB_t (by rw [unI_len]; simp; omega)
      simp only [ref10_Way_L1, ref10_Way_r3, ref10_Way_r4, ref10_Way_r5, Dt.eval, e1, e2, e3, e4, show ((2 : Int) == (0 : Int)) = false from rfl, cond_true, cond_false, app_unI, ref10_Way_K]
      rw [ih (q / 2) (by omega) f _ (by omega) (by simp; omega), wayI_succ, List.append_assoc]; rfl
theorem rway_eq (d : Nat) (P W : List Int) (p : Nat) (hp : p ≤ 500) (hW : W.length ≤ 500) (hd : 1001 ≤ d) : F_ref10_Way d ((unI P, unI W, ()), ((p : Int), ()), ()) = some (unI (wayI (W.length + p))) := by
  have e1 : IntKind.wrap .i64 ((p : Int) + ((unI W).length : Int)) = ((W.length + p : Nat) : Int) := by rw [unI_len, wr64 (by omega) (by omega)]; omega
  simp only [F_ref10_Way, ref10_Way_r0, ref10_Way_r1, ref10_Way_r2, Dt.eval, e1, ref10_Way_K]
  have := rway_loop d (W.length + p) d [] (by omega) (by simp; omega)
  rw [List.nil_append] at this
  exact this
section
variable {l : List Pt} {n m : Int} {P P0 W0 : List Int}
set_option maxHeartbeats 2000000 in
theorem rset_loop (d : Nat) (q1 q2 : List Di) (hN : i64B n = true) (hD : i64B m = true) (ht : timed l n m = 0) (hP : P.length ≤ 1000) : ∀ (i : Nat) (W O K : List Int) (f : Nat), W.length + 1 = P.length → W0.length = W.length → i < W.length + P.length → O.length + i ≤ 1000 → K.length + i ≤ 2000 → i + 1 ≤ f → OkBut l P W i →
    iter (ref10_Placed_L1 d) f ((K.length : Int), unI P0, unI W0, toPs l, n, m, q1, q2, unI P, unI W, unI O, unI (K ++ wayI i)) = some (unI P, unI (setR l n m P W0 i (W, O)).1, unI (setR l n m P W0 i (W, O)).2) := by
  intro i
  induction i using Nat.strongRecOn with
  | _ i ih =>
    intro W O K f hl hl0 hi hO hK hf hok
    obtain ⟨f, rfl⟩ : ∃ g, f = g + 1 := ⟨f - 1, by omega⟩
    rw [iter]
    cases i with
    | zero =>
      rw [wayI_zero, setR_zero, List.append_nil]
      have e1 : decide ((K.length : Int) < ((unI K).length : Int)) = false := decide_eq_false (by rw [unI_len]; omega)
      simp only [ref10_Placed_L1, ref10_Placed_r6, ref10_Placed_r12, Dt.eval, e1, cond_false, ref10_Placed_K]
    | succ i =>
      obtain ⟨k, hk0⟩ : ∃ k, i / 2 = k := ⟨_, rfl⟩
      have hk : k < W.length := by omega
      obtain ⟨hx, hy, h3⟩ := okBut_step (n := n) (d := m) hl (by omega) hok
      rw [hk0] at hx hy h3
      rw [wayI_succ, setR_succ, hk0]
      have ll : (unI (K ++ (k : Int) :: wayI k)).length = K.length + (1 + (wayI k).length) := by rw [unI_len, List.length_append, List.length_cons]; omega
      have e0 : decide ((K.length : Int) < ((unI (K ++ (k : Int) :: wayI k)).length : Int)) = true := decide_eq_true (by rw [ll]; omega)
      have b0 : inB (K.length : Int) (unI (K ++ (k : Int) :: wayI k)).length = true := inB_t (by omega) (by rw [ll]; omega)
      have g0 : (K ++ (k : Int) :: wayI k).getD K.length 0 = (k : Int) := by rw [List.getD_eq_getElem?_getD, List.getElem?_append_right (Nat.le_refl _), Nat.sub_self]; rfl
      have e1 : IntKind.wrap .i64 ((2 : Int) * (k : Int)) = 2 * (k : Int) := wr64 (by omega) (by omega)
      have e2 : IntKind.wrap .i64 (2 * (k : Int) + (1 : Int)) = ((2 * k + 1 : Nat) : Int) := by rw [wr64 (by omega) (by omega)]; omega
      have e3 : IntKind.wrap .i64 (2 * (k : Int) + (2 : Int)) = ((2 * k + 2 : Nat) : Int) := by rw [wr64 (by omega) (by omega)]; omega
      have n1 := rnode_eq d P W (2 * k + 1) (by omega) hP (by omega)
      have n2 := rnode_eq d P W (2 * k + 2) (by omega) hP (by omega)
      have w1 := rwon_eq d l n m _ _ hN hD ht hx hy
      have b1 : inB (k : Int) (unI W).length = true := inB_t (by omega) (by rw [unI_len]; omega)
      have b2 : ∀ v, inB (k : Int) (unI (W.set k v)).length = true := fun v => inB_t (by omega) (by rw [unI_len, List.length_set]; omega)
      have b3 : inB (k : Int) (unI W0).length = true := inB_t (by omega) (by rw [unI_len]; omega)
      have b4 : apB (unI O).length ([((k : Int), ())] : List Di).length = true := apB_t (by rw [unI_len]; simp; omega)
      have hv : wonV l n m (nodeV P W (2 * k + 1)) (nodeV P W (2 * k + 2)) = downV l n m P W k := rfl
      have g1 : (W.set k (downV l n m P W k)).getD k 0 = downV l n m P W k := by rw [getD_set hk, if_pos rfl]
      have e5 : IntKind.wrap .i64 ((K.length : Int) + (1 : Int)) = ((K ++ [(k : Int)]).length : Int) := by rw [wr64 (by omega) (by omega)]; simp
      have e6 : K ++ (k : Int) :: wayI k = (K ++ [(k : Int)]) ++ wayI k := by simp
      have hs : setStep l n m P W0 (W, O) (k : Int) = (W.set k (downV l n m P W k), if downV l n m P W k = W0.getD k 0 then O else O ++ [(k : Int)]) := by unfold setStep; simp only [Int.toNat_natCast]
      simp only [ref10_Placed_L1, ref10_Placed_r6, ref10_Placed_r8, ref10_Placed_r9, ref10_Placed_r10, Dt.eval, e0, b0, cond_true, Int.toNat_natCast, elt_unI, g0, e1, e2, e3, n1, n2, w1, hv, b1, b2, b3, set_unI, g1, ref10_Placed_K]
      rw [hs]
      by_cases hc : downV l n m P W k = W0.getD k 0
      · rw [if_pos hc, show (downV l n m P W k != W0.getD k 0) = false by rw [hc]; exact bne_self_eq_false ..]
        simp only [cond_false, ref10_Placed_J2, ref10_Placed_r7, Dt.eval, e5, ref10_Placed_K]
        rw [e6]
        exact ih k (by omega) (W.set k (downV l n m P W k)) O (K ++ [(k : Int)]) f (by rw [List.length_set]; exact hl) (by rw [List.length_set]; exact hl0) (by rw [List.length_set]; omega) (by omega) (by simp; omega) (by omega) h3
      · rw [if_neg hc, show (downV l n m P W k != W0.getD k 0) = true from bne_iff_ne.2 hc]
        simp only [cond_true, ref10_Placed_r11, Dt.eval, b4, app_unI, ref10_Placed_J2, ref10_Placed_r7, e5, ref10_Placed_K]
        rw [e6]
        exact ih k (by omega) (W.set k (downV l n m P W k)) (O ++ [(k : Int)]) (K ++ [(k : Int)]) f (by rw [List.length_set]; exact hl) (by rw [List.length_set]; exact hl0) (by rw [List.length_set]; omega) (by simp; omega) (by simp; omega) (by omega) h3
end
set_option maxHeartbeats 4000000 in
theorem rset_eq (d : Nat) (hd : 1001 ≤ d) (l : List Pt) (n m : Int) (P W : List Int) (k id : Int) (hN : i64B n = true) (hD : i64B m = true) (hlP : P.length ≤ 100) (hlW : W.length ≤ 100) (hll : l.length ≤ 1000) :
    F_ref10_Set d ((unI P, unI W, ()), (toPs l, ()), (n, m, ()), (k, ()), (id, ()), ()) = some (unI (brSet l n m P W k id).1, unI (brSet l n m P W k id).2.1, unI (brSet l n m P W k id).2.2.1, (brSet l n m P W k id).2.2.2) := by
  have e1 : F_ref10_Check d ((unI P, unI W, ()), ()) = some (brChk P W) := by
    rw [F_ref10_Check_eq _ _ (by unfold ref10_Check_if; simp only [idsI_unI, Bool.and_eq_true, decide_eq_true_eq]; omega)]; simp only [idsI_unI]
  have e2 : F_ref03_Timed d ((toPs l, ()), (n, m, ()), ()) = some (timed l n m) := by
    rw [F_ref03_Timed_eq _ _ (by unfold ref03_Timed_if; simp only [ptsL_toP, hN, hD, Bool.true_and, Bool.and_true, Bool.and_self, decide_eq_true_eq]; omega)]; simp only [ptsL_toP]
  unfold brSet
  by_cases h1 : brChk P W = 0
  case neg =>
    rw [if_pos h1]
    simp only [F_ref10_Set, ref10_Set_r0, ref10_Set_r1, ref10_Set_r2, Dt.eval, e1, ne0_t h1, cond_true, ref10_Set_K]; rfl
  rw [if_neg (fun h => h h1)]
  by_cases h2 : timed l n m = 0
  case neg =>
    rw [if_pos h2]
    simp only [F_ref10_Set, ref10_Set_r0, ref10_Set_r1, ref10_Set_r3, ref10_Set_r4, ref10_Set_r5, Dt.eval, e1, e2, ne0_f h1, ne0_t h2, cond_true, cond_false, ref10_Set_K]; rfl
  rw [if_neg (fun h => h h2)]
  obtain ⟨s1, s2, s3⟩ := brChk_zero h1
  obtain ⟨p1, p2, p3, p4⟩ := shape_parts s1
  by_cases h3 : k < 0
  · rw [if_pos (.inl h3)]
    simp only [F_ref10_Set, ref10_Set_r0, ref10_Set_r1, ref10_Set_r3, ref10_Set_r4, ref10_Set_r6, ref10_Set_r7, Dt.eval, e1, e2, ne0_f h1, ne0_f h2, decide_eq_true h3, cond_true, cond_false, ref10_Set_K]; rfl
  obtain ⟨p, rfl⟩ : ∃ p : Nat, k = p := ⟨k.toNat, by omega⟩
  by_cases h4 : (P.length : Int) ≤ (p : Int)
  · rw [if_pos (.inr h4)]
    have h5 : decide ((p : Int) ≥ ((unI P).length : Int)) = true := decide_eq_true (by rw [unI_len]; exact h4)
    simp only [F_ref10_Set, ref10_Set_r0, ref10_Set_r1, ref10_Set_r3, ref10_Set_r4, ref10_Set_r6, ref10_Set_r7, Dt.eval, e1, e2, ne0_f h1, ne0_f h2, decide_eq_false h3, h5, cond_true, cond_false, ref10_Set_K]; rfl
  rw [if_neg (not_or.2 ⟨h3, h4⟩)]
  have h5 : decide ((p : Int) ≥ ((unI P).length : Int)) = false := decide_eq_false (by rw [unI_len]; exact h4)
  have hp : p < P.length := by omega
  have a1 : apB ([] : List Di).length (unI P).length = true := apB_t (by rw [unI_len]; simp; omega)
  have a2 : apB ([] : List Di).length (unI W).length = true := apB_t (by rw [unI_len]; simp; omega)
  have b1 : inB (p : Int) (unI P).length = true := inB_t (by omega) (by rw [unI_len]; omega)
  have k1 : F_ref10_Known d ((toPs l, ()), (unI (P.set p id), ()), ()) = some (knownB l (P.set p id)) := by
    rw [F_ref10_Known_eq _ _ (by unfold ref10_Known_if; simp only [idsI_unI, ptsL_toP, List.length_set, Bool.and_eq_true, decide_eq_true_eq]; omega)]; simp only [idsI_unI, ptsL_toP]
  have k2 : F_ref10_Twice d ((unI (P.set p id), ()), ()) = some (!(onceB (P.set p id))) := by
    rw [F_ref10_Twice_eq _ _ (by unfold ref10_Twice_if; simp only [idsI_unI, List.length_set, decide_eq_true_eq]; omega)]; simp only [idsI_unI]
  simp only [Int.toNat_natCast]
  cases h6 : knownB l (P.set p id) with
  | false =>
    rw [if_neg (by simp)]
    simp only [F_ref10_Set, ref10_Set_r0, ref10_Set_r1, ref10_Set_r3, ref10_Set_r4, ref10_Set_r6, ref10_Set_r8, ref10_Set_r9, ref10_Set_r10, ref10_Set_r11, Dt.eval, e1, e2, ne0_f h1, ne0_f h2, decide_eq_false h3, h5, a1, b1, List.nil_append, Int.toNat_natCast, set_unI, k1, h6, Bool.not_false, cond_true, cond_false, ref10_Set_K]; rfl
  | true =>
    rw [if_pos rfl]
    cases h7 : onceB (P.set p id) with
    | false =>
      rw [if_neg (by simp)]
      simp only [F_ref10_Set, ref10_Set_r0, ref10_Set_r1, ref10_Set_r3, ref10_Set_r4, ref10_Set_r6, ref10_Set_r8, ref10_Set_r9, ref10_Set_r10, ref10_Set_r12, ref10_Set_r13, Dt.eval, e1, e2, ne0_f h1, ne0_f h2, decide_eq_false h3, h5, a1, b1, List.nil_append, Int.toNat_natCast, set_unI, k1, k2, h6, h7, Bool.not_false, Bool.not_true, cond_true, cond_false, ref10_Set_K]; rfl
    | true =>
      rw [if_pos rfl]
      have lp := rset_loop (P0 := P) (W0 := W) (l := l) (n := n) (m := m) (P := P.set p id) d ([] : List Di) ([] : List Di) hN hD h2 (by rw [List.length_set]; omega) (W.length + p) W [] [] d (by rw [List.length_set]; exact p3) rfl (by rw [List.length_set]; omega) (by simp; omega) (by simp; omega) (by omega) (okBut_start p3 s3 hp h6)
      have n0 : (unI ([] : List Int)) = ([] : List Di) := rfl
      have wy := rway_eq d P W p (by omega) (by omega) hd
      have pl : F_ref10_Placed d ((unI P, unI W, ()), (toPs l, ()), (n, m, ()), ((p : Int), ()), (id, ()), ()) = some (unI (P.set p id), unI (setR l n m (P.set p id) W (W.length + p) (W, [])).1, unI (setR l n m (P.set p id) W (W.length + p) (W, [])).2) := by
        simp only [F_ref10_Placed, ref10_Placed_r0, ref10_Placed_r1, ref10_Placed_r2, ref10_Placed_r3, ref10_Placed_r4, ref10_Placed_r5, Dt.eval, a1, a2, b1, List.nil_append, Int.toNat_natCast, set_unI, wy, cond_true, ref10_Placed_K]
        rw [n0, List.nil_append] at lp
        exact lp
      simp only [F_ref10_Set, ref10_Set_r0, ref10_Set_r1, ref10_Set_r3, ref10_Set_r4, ref10_Set_r6, ref10_Set_r8, ref10_Set_r9, ref10_Set_r10, ref10_Set_r12, ref10_Set_r14, ref10_Set_r15, Dt.eval, e1, e2, ne0_f h1, ne0_f h2, decide_eq_false h3, h5, a1, b1, List.nil_append, Int.toNat_natCast, set_unI, k1, k2, h6, h7, Bool.not_true, cond_true, cond_false, pl, ref10_Set_K]
end Go.Proofs.Ytkcpnclgcmnlcaa

namespace Go.Proofs.Ytkcpnclgcmnlcaa
open Go Go.Tx Go.Proofs.Try
set_option maxRecDepth 100000
set_option maxHeartbeats 0
abbrev law10_BracketSets_ps : List Pk := [.row RLiELiE true, .row RLiiiE true, .row Rii true, .row Ri false, .row Ri false]
abbrev law10_BracketSets_X : Type := DLiELiE × DLiiiE × Dii × Di × Di × Unit
abbrev law10_BracketSets_R : Type := Bool
def law10_BracketSets_enc (r : law10_BracketSets_R) : LV × List Ob := (.bool r, [])
def law10_BracketSets_sp (F : law10_BracketSets_X → Option law10_BracketSets_R) : Go.Tx.Spec := ⟨4, law10_BracketSets_ps, law10_BracketSets_R, F, law10_BracketSets_enc⟩
abbrev law10_BracketSets_C : Type := (ref03_Great_X → Option ref03_Great_R) × (ref10_Great_X → Option ref10_Great_R) × (ref10_Twin_X → Option ref10_Twin_R) × (bracket_Set_X → Option bracket_Set_R) × (ref10_Set_X → Option ref10_Set_R) × (ref10_Same_X → Option ref10_Same_R) × (ref03_SameIDs_X → Option ref03_SameIDs_R) × Unit
def law10_BracketSets_K (d : Nat) : law10_BracketSets_C := (F_ref03_Great d, F_ref10_Great d, F_ref10_Twin d, F_bracket_Set d, F_ref10_Set d, F_ref10_Same d, F_ref03_SameIDs d, ())
def law10_BracketSets_tab (C : law10_BracketSets_C) : List Go.Tx.Spec := [ref03_Great_sp C.1, ref10_Great_sp C.2.1, ref10_Twin_sp C.2.2.1, bracket_Set_sp C.2.2.2.1, ref10_Set_sp C.2.2.2.2.1, ref10_Same_sp C.2.2.2.2.2.1, ref03_SameIDs_sp C.2.2.2.2.2.2.1]
abbrev law10_BracketSets_Y0i : Type := List Di × List Di × List Diii × Int × Int × Int × Int
def law10_BracketSets_S0i (v : law10_BracketSets_Y0i) : St := ⟨[(0, .agg [.fz Ri v.1, .fz Ri v.2.1]), (1, .agg [.fz Riii v.2.2.1]), (2, .agg [.int .i64 v.2.2.2.1, .int .i64 v.2.2.2.2.1]), (3, .int .i64 v.2.2.2.2.2.1), (4, .int .i64 v.2.2.2.2.2.2)], []⟩
abbrev law10_BracketSets_Y0 : Type := Int × Int × List Di × List Di × List Diii × Int × Int
def law10_BracketSets_S0 (v : law10_BracketSets_Y0) : St := ⟨[(3, .int .i64 v.1), (4, .int .i64 v.2.1), (5, .ptr 0 0), (6, .ptr 1 0), (7, .ptr 2 0)], [.cells [.fz Ri v.2.2.1, .fz Ri v.2.2.2.1], .cells [.fz Riii v.2.2.2.2.1], .cells [.int .i64 v.2.2.2.2.2.1, .int .i64 v.2.2.2.2.2.2]]⟩
def law10_BracketSets_r0 (C : law10_BracketSets_C) (v : law10_BracketSets_Y0i) : Dt law10_BracketSets_Y0 := (Dt.ret (v.2.2.2.2.2.1, v.2.2.2.2.2.2, v.1, v.2.1, v.2.2.1, v.2.2.2.1, v.2.2.2.2.1))
theorem law10_BracketSets_g0 (C : law10_BracketSets_C) (v : law10_BracketSets_Y0i) : treg tysT (orc (law10_BracketSets_tab C)) 93 (regO (bodyOf f4) 0) false [(3, .any), (4, .any), (5, (.box [.val Ri, .val Ri])), (6, (.box [.val Riii])), (7, .any)] (law10_BracketSets_S0i v) some = (law10_BracketSets_r0 C v).eval fun y => some (law10_BracketSets_S0 y) := by kernel_rfl
abbrev law10_BracketSets_Y1 : Type := Int × Int × Bool × List Di × List Di × List Diii × Int × Int
def law10_BracketSets_S1 (v : law10_BracketSets_Y1) : St := ⟨[(3, .int .i64 v.1), (4, .int .i64 v.2.1), (5, .ptr 0 0), (6, .ptr 1 0), (7, .ptr 2 0), (25, .bool v.2.2.1)], [.cells [.fz Ri v.2.2.2.1, .fz Ri v.2.2.2.2.1], .cells [.fz Riii v.2.2.2.2.2.1], .cells [.int .i64 v.2.2.2.2.2.2.1, .int .i64 v.2.2.2.2.2.2.2]]⟩
def law10_BracketSets_r1 (C : law10_BracketSets_C) (v : law10_BracketSets_Y0) : Dt law10_BracketSets_Y1 := (Dt.bnd (C.1 ((v.2.2.2.2.1, ()), ())) fun r1 => (Dt.ite r1 (Dt.ret (v.1, v.2.1, true, v.2.2.1, v.2.2.2.1, v.2.2.2.2.1, v.2.2.2.2.2.1, v.2.2.2.2.2.2)) (Dt.bnd (C.2.1 ((v.2.2.1, v.2.2.2.1, ()), ())) fun r2 => (Dt.ret (v.1, v.2.1, r2, v.2.2.1, v.2.2.2.1, v.2.2.2.2.1, v.2.2.2.2.2.1, v.2.2.2.2.2.2)))))
theorem law10_BracketSets_g1 (C : law10_BracketSets_C) (v : law10_BracketSets_Y0) : treg tysT (orc (law10_BracketSets_tab C)) 93 (regO (bodyOf f4) 1) false [(3, .any), (4, .any), (5, (.box [.val Ri, .val Ri])), (6, (.box [.val Riii])), (7, .any), (25, .any)] (law10_BracketSets_S0 v) some = (law10_BracketSets_r1 C v).eval fun y => some (law10_BracketSets_S1 y) := by kernel_rfl
abbrev law10_BracketSets_Y2 : Type := Bool
def law10_BracketSets_S2 (v : law10_BracketSets_Y2) : St := ⟨[(10, .bool v)], []⟩
def law10_BracketSets_r2 (C : law10_BracketSets_C) (v : law10_BracketSets_Y1) : Dt law10_BracketSets_Y2 := (Dt.ret true)
theorem law10_BracketSets_g2 (C : law10_BracketSets_C) (v : law10_BracketSets_Y1) : treg tysT (orc (law10_BracketSets_tab C)) 93 (regO (bodyOf f4) 2) false [(10, .any)] (law10_BracketSets_S1 v) some = (law10_BracketSets_r2 C v).eval fun y => some (law10_BracketSets_S2 y) := by kernel_rfl
abbrev law10_BracketSets_Y3 : Type := Int × Int × List Di × List Di × List Diii × Int × Int × List Di × List Di
def law10_BracketSets_S3 (v : law10_BracketSets_Y3) : St := ⟨[(3, .int .i64 v.1), (4, .int .i64 v.2.1), (5, .ptr 0 0), (6, .ptr 1 0), (7, .ptr 2 0), (11, .ptr 3 0)], [.cells [.fz Ri v.2.2.1, .fz Ri v.2.2.2.1], .cells [.fz Riii v.2.2.2.2.1], .cells [.int .i64 v.2.2.2.2.2.1, .int .i64 v.2.2.2.2.2.2.1], .cells [.rs 4, .rs 5], .rows Ri v.2.2.2.2.2.2.2.1, .rows Ri v.2.2.2.2.2.2.2.2]⟩
def law10_BracketSets_r3 (C : law10_BracketSets_C) (v : law10_BracketSets_Y1) : Dt law10_BracketSets_Y3 := (Dt.bnd (C.2.2.1 ((v.2.2.2.1, v.2.2.2.2.1, ()), ())) fun r1 => (Dt.ret (v.1, v.2.1, v.2.2.2.1, v.2.2.2.2.1, v.2.2.2.2.2.1, v.2.2.2.2.2.2.1, v.2.2.2.2.2.2.2, r1.1, r1.2)))
theorem law10_BracketSets_g3 (C : law10_BracketSets_C) (v : law10_BracketSets_Y1) : treg tysT (orc (law10_BracketSets_tab C)) 93 (regO (bodyOf f4) 3) false [(3, .any), (4, .any), (5, (.box [.val Ri, .val Ri])), (6, (.box [.val Riii])), (7, .any), (11, (.box [.own Ri, .own Ri]))] (law10_BracketSets_S1 v) some = (law10_BracketSets_r3 C v).eval fun y => some (law10_BracketSets_S3 y) := by kernel_rfl
abbrev law10_BracketSets_Y4 : Type := Int × Int × Int × List Di × List Di × List Diii × Int × Int × List Di × List Di × List Di × List Di × List Di
def law10_BracketSets_S4 (v : law10_BracketSets_Y4) : St := ⟨[(3, .int .i64 v.1), (4, .int .i64 v.2.1), (5, .ptr 0 0), (6, .ptr 1 0), (7, .ptr 2 0), (11, .ptr 3 0), (12, .ptr 6 0), (13, .rs 9), (14, .int .i64 v.2.2.1)], [.cells [.fz Ri v.2.2.2.1, .fz Ri v.2.2.2.2.1], .cells [.fz Riii v.2.2.2.2.2.1], .cells [.int .i64 v.2.2.2.2.2.2.1, .int .i64 v.2.2.2.2.2.2.2.1], .cells [.rs 4, .rs 5], .rows Ri v.2.2.2.2.2.2.2.2.1, .rows Ri v.2.2.2.2.2.2.2.2.2.1, .cells [.rs 7, .rs 8], .rows Ri v.2.2.2.2.2.2.2.2.2.2.1, .rows Ri v.2.2.2.2.2.2.2.2.2.2.2.1, .rows Ri v.2.2.2.2.2.2.2.2.2.2.2.2]⟩
def law10_BracketSets_r4 (C : law10_BracketSets_C) (v : law10_BracketSets_Y3) : Dt law10_BracketSets_Y4 := (Dt.bnd (C.2.2.2.1 ((v.2.2.2.2.2.2.2.1, v.2.2.2.2.2.2.2.2, ()), (v.2.2.2.2.1, ()), (v.2.2.2.2.2.1, v.2.2.2.2.2.2.1, ()), (v.1, ()), (v.2.1, ()), ())) fun r1 => (Dt.ret (v.1, v.2.1, r1.2.2.2, v.2.2.1, v.2.2.2.1, v.2.2.2.2.1, v.2.2.2.2.2.1, v.2.2.2.2.2.2.1, v.2.2.2.2.2.2.2.1, v.2.2.2.2.2.2.2.2, r1.1, r1.2.1, r1.2.2.1)))
theorem law10_BracketSets_g4 (C : law10_BracketSets_C) (v : law10_BracketSets_Y3) : treg tysT (orc (law10_BracketSets_tab C)) 93 (regO (bodyOf f4) 4) false [(3, .any), (4, .any), (5, (.box [.val Ri, .val Ri])), (6, (.box [.val Riii])), (7, .any), (11, (.box [.own Ri, .own Ri])), (12, (.box [.own Ri, .own Ri])), (13, (.own Ri)), (14, .any)] (law10_BracketSets_S3 v) some = (law10_BracketSets_r4 C v).eval fun y => some (law10_BracketSets_S4 y) := by kernel_rfl
abbrev law10_BracketSets_Y5 : Type := Int × Int × List Di × List Di × List Di × List Di × List Di × List Di × List Di × List Di × List Di × List Di
def law10_BracketSets_S5 (v : law10_BracketSets_Y5) : St := ⟨[(5, .ptr 0 0), (11, .ptr 1 0), (12, .ptr 4 0), (13, .rs 7), (14, .int .i64 v.1), (15, .ptr 8 0), (16, .rs 11), (17, .int .i64 v.2.1)], [.cells [.fz Ri v.2.2.1, .fz Ri v.2.2.2.1], .cells [.rs 2, .rs 3], .rows Ri v.2.2.2.2.1, .rows Ri v.2.2.2.2.2.1, .cells [.rs 5, .rs 6], .rows Ri v.2.2.2.2.2.2.1, .rows Ri v.2.2.2.2.2.2.2.1, .rows Ri v.2.2.2.2.2.2.2.2.1, .cells [.rs 9, .rs 10], .rows Ri v.2.2.2.2.2.2.2.2.2.1, .rows Ri v.2.2.2.2.2.2.2.2.2.2.1, .rows Ri v.2.2.2.2.2.2.2.2.2.2.2]⟩
def law10_BracketSets_r5 (C : law10_BracketSets_C) (v : law10_BracketSets_Y4) : Dt law10_BracketSets_Y5 := (Dt.bnd (C.2.2.2.2.1 ((v.2.2.2.1, v.2.2.2.2.1, ()), (v.2.2.2.2.2.1, ()), (v.2.2.2.2.2.2.1, v.2.2.2.2.2.2.2.1, ()), (v.1, ()), (v.2.1, ()), ())) fun r1 => (Dt.ret (v.2.2.1, r1.2.2.2, v.2.2.2.1, v.2.2.2.2.1, v.2.2.2.2.2.2.2.2.1, v.2.2.2.2.2.2.2.2.2.1, v.2.2.2.2.2.2.2.2.2.2.1, v.2.2.2.2.2.2.2.2.2.2.2.1, v.2.2.2.2.2.2.2.2.2.2.2.2, r1.1, r1.2.1, r1.2.2.1)))
theorem law10_BracketSets_g5 (C : law10_BracketSets_C) (v : law10_BracketSets_Y4) : treg tysT (orc (law10_BracketSets_tab C)) 93 (regO (bodyOf f4) 5) false [(5, (.box [.val Ri, .val Ri])), (11, (.box [.own Ri, .own Ri])), (12, (.box [.own Ri, .own Ri])), (13, (.own Ri)), (14, .any), (15, (.box [.own Ri, .own Ri])), (16, (.own Ri)), (17, .any)] (law10_BracketSets_S4 v) some = (law10_BracketSets_r5 C v).eval fun y => some (law10_BracketSets_S5 y) := by kernel_rfl
abbrev law10_BracketSets_Y6 : Type := Int × Int × Bool × List Di × List Di × List Di × List Di × List Di × List Di × List Di × List Di
def law10_BracketSets_S6 (v : law10_BracketSets_Y6) : St := ⟨[(11, .ptr 0 0), (12, .ptr 3 0), (13, .rs 6), (14, .int .i64 v.1), (15, .ptr 7 0), (16, .rs 10), (17, .int .i64 v.2.1), (51, .bool v.2.2.1)], [.cells [.rs 1, .rs 2], .rows Ri v.2.2.2.1, .rows Ri v.2.2.2.2.1, .cells [.rs 4, .rs 5], .rows Ri v.2.2.2.2.2.1, .rows Ri v.2.2.2.2.2.2.1, .rows Ri v.2.2.2.2.2.2.2.1, .cells [.rs 8, .rs 9], .rows Ri v.2.2.2.2.2.2.2.2.1, .rows Ri v.2.2.2.2.2.2.2.2.2.1, .rows Ri v.2.2.2.2.2.2.2.2.2.2]⟩
def law10_BracketSets_r6 (C : law10_BracketSets_C) (v : law10_BracketSets_Y5) : Dt law10_BracketSets_Y6 := (Dt.bnd (C.2.2.2.2.2.1 ((v.2.2.2.2.1, v.2.2.2.2.2.1, ()), (v.2.2.1, v.2.2.2.1, ()), ())) fun r1 => (Dt.ret (v.1, v.2.1, (!r1), v.2.2.2.2.1, v.2.2.2.2.2.1, v.2.2.2.2.2.2.1, v.2.2.2.2.2.2.2.1, v.2.2.2.2.2.2.2.2.1, v.2.2.2.2.2.2.2.2.2.1, v.2.2.2.2.2.2.2.2.2.2.1, v.2.2.2.2.2.2.2.2.2.2.2)))
theorem law10_BracketSets_g6 (C : law10_BracketSets_C) (v : law10_BracketSets_Y5) : treg tysT (orc (law10_BracketSets_tab C)) 93 (regO (bodyOf f4) 6) false [(11, (.box [.own Ri, .own Ri])), (12, (.box [.own Ri, .own Ri])), (13, (.own Ri)), (14, .any), (15, (.box [.own Ri, .own Ri])), (16, (.own Ri)), (17, .any), (51, .any)] (law10_BracketSets_S5 v) some = (law10_BracketSets_r6 C v).eval fun y => some (law10_BracketSets_S6 y) := by kernel_rfl
def law10_BracketSets_r7 (C : law10_BracketSets_C) (v : law10_BracketSets_Y6) : Dt law10_BracketSets_Y2 := (Dt.ret false)
theorem law10_BracketSets_g7 (C : law10_BracketSets_C) (v : law10_BracketSets_Y6) : treg tysT (orc (law10_BracketSets_tab C)) 93 (regO (bodyOf f4) 7) false [(10, .any)] (law10_BracketSets_S6 v) some = (law10_BracketSets_r7 C v).eval fun y => some (law10_BracketSets_S2 y) := by kernel_rfl
abbrev law10_BracketSets_Y8 : Type := Int × Int × Int × List Di × List Di × List Di × List Di × List Di × List Di × List Di × List Di
def law10_BracketSets_S8 (v : law10_BracketSets_Y8) : St := ⟨[(11, .ptr 0 0), (12, .ptr 3 0), (13, .rs 6), (14, .int .i64 v.1), (15, .ptr 7 0), (16, .rs 10), (17, .int .i64 v.2.1), (18, .int .i64 v.2.2.1)], [.cells [.rs 1, .rs 2], .rows Ri v.2.2.2.1, .rows Ri v.2.2.2.2.1, .cells [.rs 4, .rs 5], .rows Ri v.2.2.2.2.2.1, .rows Ri v.2.2.2.2.2.2.1, .rows Ri v.2.2.2.2.2.2.2.1, .cells [.rs 8, .rs 9], .rows Ri v.2.2.2.2.2.2.2.2.1, .rows Ri v.2.2.2.2.2.2.2.2.2.1, .rows Ri v.2.2.2.2.2.2.2.2.2.2]⟩
def law10_BracketSets_r8 (C : law10_BracketSets_C) (v : law10_BracketSets_Y6) : Dt law10_BracketSets_Y8 := (Dt.ret (v.1, v.2.1, (0:Int), v.2.2.2.1, v.2.2.2.2.1, v.2.2.2.2.2.1, v.2.2.2.2.2.2.1, v.2.2.2.2.2.2.2.1, v.2.2.2.2.2.2.2.2.1, v.2.2.2.2.2.2.2.2.2.1, v.2.2.2.2.2.2.2.2.2.2))
theorem law10_BracketSets_g8 (C : law10_BracketSets_C) (v : law10_BracketSets_Y6) : treg tysT (orc (law10_BracketSets_tab C)) 93 (regO (bodyOf f4) 8) false [(11, (.box [.own Ri, .own Ri])), (12, (.box [.own Ri, .own Ri])), (13, (.own Ri)), (14, .any), (15, (.box [.own Ri, .own Ri])), (16, (.own Ri)), (17, .any), (18, .any)] (law10_BracketSets_S6 v) some = (law10_BracketSets_r8 C v).eval fun y => some (law10_BracketSets_S8 y) := by kernel_rfl
abbrev law10_BracketSets_Y9 : Type := Int × Int × Int × Bool × List Di × List Di × List Di × List Di × List Di × List Di × List Di × List Di
def law10_BracketSets_S9 (v : law10_BracketSets_Y9) : St := ⟨[(11, .ptr 0 0), (12, .ptr 3 0), (13, .rs 6), (14, .int .i64 v.1), (15, .ptr 7 0), (16, .rs 10), (17, .int .i64 v.2.1), (18, .int .i64 v.2.2.1), (56, .bool v.2.2.2.1)], [.cells [.rs 1, .rs 2], .rows Ri v.2.2.2.2.1, .rows Ri v.2.2.2.2.2.1, .cells [.rs 4, .rs 5], .rows Ri v.2.2.2.2.2.2.1, .rows Ri v.2.2.2.2.2.2.2.1, .rows Ri v.2.2.2.2.2.2.2.2.1, .cells [.rs 8, .rs 9], .rows Ri v.2.2.2.2.2.2.2.2.2.1, .rows Ri v.2.2.2.2.2.2.2.2.2.2.1, .rows Ri v.2.2.2.2.2.2.2.2.2.2.2]⟩
def law10_BracketSets_r9 (C : law10_BracketSets_C) (v : law10_BracketSets_Y8) : Dt law10_BracketSets_Y9 := (Dt.ret (v.1, v.2.1, v.2.2.1, (decide (v.2.2.1 < (List.length v.2.2.2.1 : Int))), v.2.2.2.1, v.2.2.2.2.1, v.2.2.2.2.2.1, v.2.2.2.2.2.2.1, v.2.2.2.2.2.2.2.1, v.2.2.2.2.2.2.2.2.1, v.2.2.2.2.2.2.2.2.2.1, v.2.2.2.2.2.2.2.2.2.2))
theorem law10_BracketSets_g9 (C : law10_BracketSets_C) (v : law10_BracketSets_Y8) : treg tysT (orc (law10_BracketSets_tab C)) 93 (regO (bodyOf f4) 9) false [(11, (.box [.own Ri, .own Ri])), (12, (.box [.own Ri, .own Ri])), (13, (.own Ri)), (14, .any), (15, (.box [.own Ri, .own Ri])), (16, (.own Ri)), (17, .any), (18, .any), (56, .any)] (law10_BracketSets_S8 v) some = (law10_BracketSets_r9 C v).eval fun y => some (law10_BracketSets_S9 y) := by kernel_rfl
def law10_BracketSets_r11 (C : law10_BracketSets_C) (v : law10_BracketSets_Y9) : Dt law10_BracketSets_Y8 := (Dt.ite (inB v.2.2.1 (List.length v.2.2.2.2.1)) (Dt.ite (inB v.2.2.1 (List.length v.2.2.2.2.1)) (Dt.ret (v.1, v.2.1, v.2.2.1, (List.set v.2.2.2.2.1 (v.2.2.1).toNat ((IntKind.wrap .i64 ((elt zi v.2.2.2.2.1 (v.2.2.1).toNat).1 + (1:Int))), ())), v.2.2.2.2.2.1, v.2.2.2.2.2.2.1, v.2.2.2.2.2.2.2.1, v.2.2.2.2.2.2.2.2.1, v.2.2.2.2.2.2.2.2.2.1, v.2.2.2.2.2.2.2.2.2.2.1, v.2.2.2.2.2.2.2.2.2.2.2)) Dt.fail) Dt.fail)
theorem law10_BracketSets_g11 (C : law10_BracketSets_C) (v : law10_BracketSets_Y9) : treg tysT (orc (law10_BracketSets_tab C)) 93 (regO (bodyOf f4) 11) false [(11, (.box [.own Ri, .own Ri])), (12, (.box [.own Ri, .own Ri])), (13, (.own Ri)), (14, .any), (15, (.box [.own Ri, .own Ri])), (16, (.own Ri)), (17, .any), (18, .any)] (law10_BracketSets_S9 v) some = (law10_BracketSets_r11 C v).eval fun y => some (law10_BracketSets_S8 y) := by kernel_rfl
def law10_BracketSets_r10 (C : law10_BracketSets_C) (v : law10_BracketSets_Y8) : Dt law10_BracketSets_Y8 := (Dt.ret (v.1, v.2.1, (IntKind.wrap .i64 (v.2.2.1 + (1:Int))), v.2.2.2.1, v.2.2.2.2.1, v.2.2.2.2.2.1, v.2.2.2.2.2.2.1, v.2.2.2.2.2.2.2.1, v.2.2.2.2.2.2.2.2.1, v.2.2.2.2.2.2.2.2.2.1, v.2.2.2.2.2.2.2.2.2.2))
theorem law10_BracketSets_g10 (C : law10_BracketSets_C) (v : law10_BracketSets_Y8) : treg tysT (orc (law10_BracketSets_tab C)) 93 (regO (bodyOf f4) 10) false [(11, (.box [.own Ri, .own Ri])), (12, (.box [.own Ri, .own Ri])), (13, (.own Ri)), (14, .any), (15, (.box [.own Ri, .own Ri])), (16, (.own Ri)), (17, .any), (18, .any)] (law10_BracketSets_S8 v) some = (law10_BracketSets_r10 C v).eval fun y => some (law10_BracketSets_S8 y) := by kernel_rfl
abbrev law10_BracketSets_Y12 : Type := Int × Int × Int × List Di × List Di × List Di × List Di × List Di × List Di × List Di × List Di
def law10_BracketSets_S12 (v : law10_BracketSets_Y12) : St := ⟨[(11, .ptr 0 0), (12, .ptr 3 0), (13, .rs 6), (14, .int .i64 v.1), (15, .ptr 7 0), (16, .rs 10), (17, .int .i64 v.2.1), (19, .int .i64 v.2.2.1)], [.cells [.rs 1, .rs 2], .rows Ri v.2.2.2.1, .rows Ri v.2.2.2.2.1, .cells [.rs 4, .rs 5], .rows Ri v.2.2.2.2.2.1, .rows Ri v.2.2.2.2.2.2.1, .rows Ri v.2.2.2.2.2.2.2.1, .cells [.rs 8, .rs 9], .rows Ri v.2.2.2.2.2.2.2.2.1, .rows Ri v.2.2.2.2.2.2.2.2.2.1, .rows Ri v.2.2.2.2.2.2.2.2.2.2]⟩
def law10_BracketSets_r12 (C : law10_BracketSets_C) (v : law10_BracketSets_Y9) : Dt law10_BracketSets_Y12 := (Dt.ret (v.1, v.2.1, (0:Int), v.2.2.2.2.1, v.2.2.2.2.2.1, v.2.2.2.2.2.2.1, v.2.2.2.2.2.2.2.1, v.2.2.2.2.2.2.2.2.1, v.2.2.2.2.2.2.2.2.2.1, v.2.2.2.2.2.2.2.2.2.2.1, v.2.2.2.2.2.2.2.2.2.2.2))
theorem law10_BracketSets_g12 (C : law10_BracketSets_C) (v : law10_BracketSets_Y9) : treg tysT (orc (law10_BracketSets_tab C)) 93 (regO (bodyOf f4) 12) false [(11, (.box [.own Ri, .own Ri])), (12, (.box [.own Ri, .own Ri])), (13, (.own Ri)), (14, .any), (15, (.box [.own Ri, .own Ri])), (16, (.own Ri)), (17, .any), (19, .any)] (law10_BracketSets_S9 v) some = (law10_BracketSets_r12 C v).eval fun y => some (law10_BracketSets_S12 y) := by kernel_rfl
abbrev law10_BracketSets_Y13 : Type := Int × Int × Int × Bool × List Di × List Di × List Di × List Di × List Di × List Di × List Di × List Di
def law10_BracketSets_S13 (v : law10_BracketSets_Y13) : St := ⟨[(11, .ptr 0 0), (12, .ptr 3 0), (13, .rs 6), (14, .int .i64 v.1), (15, .ptr 7 0), (16, .rs 10), (17, .int .i64 v.2.1), (19, .int .i64 v.2.2.1), (70, .bool v.2.2.2.1)], [.cells [.rs 1, .rs 2], .rows Ri v.2.2.2.2.1, .rows Ri v.2.2.2.2.2.1, .cells [.rs 4, .rs 5], .rows Ri v.2.2.2.2.2.2.1, .rows Ri v.2.2.2.2.2.2.2.1, .rows Ri v.2.2.2.2.2.2.2.2.1, .cells [.rs 8, .rs 9], .rows Ri v.2.2.2.2.2.2.2.2.2.1, .rows Ri v.2.2.2.2.2.2.2.2.2.2.1, .rows Ri v.2.2.2.2.2.2.2.2.2.2.2]⟩
def law10_BracketSets_r13 (C : law10_BracketSets_C) (v : law10_BracketSets_Y12) : Dt law10_BracketSets_Y13 := (Dt.ret (v.1, v.2.1, v.2.2.1, (decide (v.2.2.1 < (List.length v.2.2.2.2.1 : Int))), v.2.2.2.1, v.2.2.2.2.1, v.2.2.2.2.2.1, v.2.2.2.2.2.2.1, v.2.2.2.2.2.2.2.1, v.2.2.2.2.2.2.2.2.1, v.2.2.2.2.2.2.2.2.2.1, v.2.2.2.2.2.2.2.2.2.2))
theorem law10_BracketSets_g13 (C : law10_BracketSets_C) (v : law10_BracketSets_Y12) : treg tysT (orc (law10_BracketSets_tab C)) 93 (regO (bodyOf f4) 13) false [(11, (.box [.own Ri, .own Ri])), (12, (.box [.own Ri, .own Ri])), (13, (.own Ri)), (14, .any), (15, (.box [.own Ri, .own Ri])), (16, (.own Ri)), (17, .any), (19, .any), (70, .any)] (law10_BracketSets_S12 v) some = (law10_BracketSets_r13 C v).eval fun y => some (law10_BracketSets_S13 y) := by kernel_rfl
def law10_BracketSets_r15 (C : law10_BracketSets_C) (v : law10_BracketSets_Y13) : Dt law10_BracketSets_Y12 := (Dt.ite (inB v.2.2.1 (List.length v.2.2.2.2.2.1)) (Dt.ite (inB v.2.2.1 (List.length v.2.2.2.2.2.1)) (Dt.ret (v.1, v.2.1, v.2.2.1, v.2.2.2.2.1, (List.set v.2.2.2.2.2.1 (v.2.2.1).toNat ((IntKind.wrap .i64 ((elt zi v.2.2.2.2.2.1 (v.2.2.1).toNat).1 + (1:Int))), ())), v.2.2.2.2.2.2.1, v.2.2.2.2.2.2.2.1, v.2.2.2.2.2.2.2.2.1, v.2.2.2.2.2.2.2.2.2.1, v.2.2.2.2.2.2.2.2.2.2.1, v.2.2.2.2.2.2.2.2.2.2.2)) Dt.fail) Dt.fail)
theorem law10_BracketSets_g15 (C : law10_BracketSets_C) (v : law10_BracketSets_Y13) : treg tysT (orc (law10_BracketSets_tab C)) 93 (regO (bodyOf f4) 15) false [(11, (.box [.own Ri, .own Ri])), (12, (.box [.own Ri, .own Ri])), (13, (.own Ri)), (14, .any), (15, (.box [.own Ri, .own Ri])), (16, (.own Ri)), (17, .any), (19, .any)] (law10_BracketSets_S13 v) some = (law10_BracketSets_r15 C v).eval fun y => some (law10_BracketSets_S12 y) := by kernel_rfl
def law10_BracketSets_r14 (C : law10_BracketSets_C) (v : law10_BracketSets_Y12) : Dt law10_BracketSets_Y12 := (Dt.ret (v.1, v.2.1, (IntKind.wrap .i64 (v.2.2.1 + (1:Int))), v.2.2.2.1, v.2.2.2.2.1, v.2.2.2.2.2.1, v.2.2.2.2.2.2.1, v.2.2.2.2.2.2.2.1, v.2.2.2.2.2.2.2.2.1, v.2.2.2.2.2.2.2.2.2.1, v.2.2.2.2.2.2.2.2.2.2))
theorem law10_BracketSets_g14 (C : law10_BracketSets_C) (v : law10_BracketSets_Y12) : treg tysT (orc (law10_BracketSets_tab C)) 93 (regO (bodyOf f4) 14) false [(11, (.box [.own Ri, .own Ri])), (12, (.box [.own Ri, .own Ri])), (13, (.own Ri)), (14, .any), (15, (.box [.own Ri, .own Ri])), (16, (.own Ri)), (17, .any), (19, .any)] (law10_BracketSets_S12 v) some = (law10_BracketSets_r14 C v).eval fun y => some (law10_BracketSets_S12 y) := by kernel_rfl
def law10_BracketSets_r16 (C : law10_BracketSets_C) (v : law10_BracketSets_Y13) : Dt law10_BracketSets_Y2 := (Dt.bnd (C.2.2.2.2.2.1 ((v.2.2.2.2.2.2.1, v.2.2.2.2.2.2.2.1, ()), (v.2.2.2.2.2.2.2.2.2.1, v.2.2.2.2.2.2.2.2.2.2.1, ()), ())) fun r1 => (Dt.ite r1 (Dt.bnd (C.2.2.2.2.2.2.1 ((v.2.2.2.2.2.2.2.2.1, ()), (v.2.2.2.2.2.2.2.2.2.2.2, ()), ())) fun r2 => (Dt.ite r2 (Dt.ret (v.1 == v.2.1)) (Dt.ret false))) (Dt.ret false)))
theorem law10_BracketSets_g16 (C : law10_BracketSets_C) (v : law10_BracketSets_Y13) : treg tysT (orc (law10_BracketSets_tab C)) 93 (regO (bodyOf f4) 16) false [(10, .any)] (law10_BracketSets_S13 v) some = (law10_BracketSets_r16 C v).eval fun y => some (law10_BracketSets_S2 y) := by kernel_rfl
def law10_BracketSets_L2 (d : Nat) (self2 : (Int × Int × Int × List Di × List Di × List Di × List Di × List Di × List Di × List Di × List Di) → Option law10_BracketSets_R) (x2 : Int × Int × Int × List Di × List Di × List Di × List Di × List Di × List Di × List Di × List Di) : Option law10_BracketSets_R :=
  (law10_BracketSets_r13 (law10_BracketSets_K d) x2).eval fun y13 =>
  bif y13.2.2.2.1 then ((law10_BracketSets_r15 (law10_BracketSets_K d) y13).eval fun y15 =>
  (law10_BracketSets_r14 (law10_BracketSets_K d) y15).eval fun y14 =>
  self2 y14) else ((law10_BracketSets_r16 (law10_BracketSets_K d) y13).eval fun y16 =>
  some y16)
def law10_BracketSets_L1 (d : Nat) (self1 : (Int × Int × Int × List Di × List Di × List Di × List Di × List Di × List Di × List Di × List Di) → Option law10_BracketSets_R) (x1 : Int × Int × Int × List Di × List Di × List Di × List Di × List Di × List Di × List Di × List Di) : Option law10_BracketSets_R :=
  (law10_BracketSets_r9 (law10_BracketSets_K d) x1).eval fun y9 =>
  bif y9.2.2.2.1 then ((law10_BracketSets_r11 (law10_BracketSets_K d) y9).eval fun y11 =>
  (law10_BracketSets_r10 (law10_BracketSets_K d) y11).eval fun y10 =>
  self1 y10) else ((law10_BracketSets_r12 (law10_BracketSets_K d) y9).eval fun y12 =>
  iter (law10_BracketSets_L2 d ) d y12)
def F_law10_BracketSets (d : Nat) (x : law10_BracketSets_X) : Option law10_BracketSets_R :=
  (law10_BracketSets_r0 (law10_BracketSets_K d) (x.1.1, x.1.2.1, x.2.1.1, x.2.2.1.1, x.2.2.1.2.1, x.2.2.2.1.1, x.2.2.2.2.1.1)).eval fun y0 =>
  (law10_BracketSets_r1 (law10_BracketSets_K d) y0).eval fun y1 =>
  bif y1.2.2.1 then ((law10_BracketSets_r2 (law10_BracketSets_K d) y1).eval fun y2 =>
  some y2) else ((law10_BracketSets_r3 (law10_BracketSets_K d) y1).eval fun y3 =>
  (law10_BracketSets_r4 (law10_BracketSets_K d) y3).eval fun y4 =>
  (law10_BracketSets_r5 (law10_BracketSets_K d) y4).eval fun y5 =>
  (law10_BracketSets_r6 (law10_BracketSets_K d) y5).eval fun y6 =>
  bif y6.2.2.1 then ((law10_BracketSets_r7 (law10_BracketSets_K d) y6).eval fun y7 =>
  some y7) else ((law10_BracketSets_r8 (law10_BracketSets_K d) y6).eval fun y8 =>
  iter (law10_BracketSets_L1 d ) d y8))
theorem law10_BracketSets_cok (d : Nat) : COK prog (law10_BracketSets_sp (F_law10_BracketSets d)) := by
  have hm : prog.follows .mixedOrders = true := mixed
  have hT := tys
  have hC : OrcOK prog (orc (law10_BracketSets_tab (law10_BracketSets_K d))) := orc_ok (by
    intro S hS
    simp only [law10_BracketSets_tab, List.mem_cons, List.not_mem_nil, or_false] at hS
    rcases hS with rfl | rfl | rfl | rfl | rfl | rfl | rfl
    · exact ref03_Great_cok d
    · exact ref10_Great_cok d
    · exact ref10_Twin_cok d
    · exact bracket_Set_cok d
    · exact ref10_Set_cok d
    · exact ref10_Same_cok d
    · exact ref03_SameIDs_cok d)
  refine cok_of (c := bodyOf f4) (fn := f4) hT (by kernel_rfl) (by kernel_rfl) (by decide) fun x r h w0 φ0 Q hend => ?_
  replace h : F_law10_BracketSets d x = some r := h
  unfold F_law10_BracketSets at h
  show Run prog w0 φ0 93 (bodyOf f4) ⟨[(0, .agg [.fz Ri x.1.1, .fz Ri x.1.2.1]), (1, .agg [.fz Riii x.2.1.1]), (2, .agg [.int .i64 x.2.2.1.1, .int .i64 x.2.2.1.2.1]), (3, .int .i64 x.2.2.2.1.1), (4, .int .i64 x.2.2.2.2.1.1)], []⟩ Q
  refine run_seq ?_
  refine run_reg hm hT hC (law10_BracketSets_g0 (law10_BracketSets_K d) (x.1.1, x.1.2.1, x.2.1.1, x.2.2.1.1, x.2.2.1.2.1, x.2.2.2.1.1, x.2.2.2.2.1.1)) h ?_
  intro y0 h
  refine cn_then ?_
  refine run_seq ?_
  refine run_seq ?_
  refine run_reg hm hT hC (law10_BracketSets_g1 (law10_BracketSets_K d) y0) h ?_
  intro y1 h
  refine cn_then ?_
  refine run_cond (v := y1.2.2.1) (by kernel_rfl) h ?_ ?_
  ·
    intro h
    refine run_seq ?_
    refine run_reg hm hT hC (law10_BracketSets_g2 (law10_BracketSets_K d) y1) h ?_
    intro y2 h
    refine cn_then ?_
    refine run_ret ?_
    refine cn_then_ret ?_
    cases h
    exact (hend _ (by kernel_rfl)).2
  ·
    intro h
    refine run_skip ?_
    refine cn_then ?_
    refine run_seq ?_
    refine run_reg hm hT hC (law10_BracketSets_g3 (law10_BracketSets_K d) y1) h ?_
    intro y3 h
    refine cn_then ?_
    refine run_seq ?_
    refine run_reg hm hT hC (law10_BracketSets_g4 (law10_BracketSets_K d) y3) h ?_
    intro y4 h
    refine cn_then ?_
    refine run_seq ?_
    refine run_reg hm hT hC (law10_BracketSets_g5 (law10_BracketSets_K d) y4) h ?_
    intro y5 h
    refine cn_then ?_
    refine run_seq ?_
    refine run_seq ?_
    refine run_reg hm hT hC (law10_BracketSets_g6 (law10_BracketSets_K d) y5) h ?_
    intro y6 h
    refine cn_then ?_
    refine run_cond (v := y6.2.2.1) (by kernel_rfl) h ?_ ?_
    ·
      intro h
      refine run_seq ?_
      refine run_reg hm hT hC (law10_BracketSets_g7 (law10_BracketSets_K d) y6) h ?_
      intro y7 h
      refine cn_then ?_
      refine run_ret ?_
      refine cn_then_ret ?_
      cases h
      exact (hend _ (by kernel_rfl)).2
    ·
      intro h
      refine run_skip ?_
      refine cn_then ?_
      refine run_seq ?_
      refine run_seq ?_
      refine run_reg hm hT hC (law10_BracketSets_g8 (law10_BracketSets_K d) y6) h ?_
      intro y8 h
      refine cn_then ?_
      refine run_block ?_
      refine run_loop (G := iter (law10_BracketSets_L1 d )) (S := (fun x1 => ⟨[(11, .ptr 0 0), (12, .ptr 3 0), (13, .rs 6), (14, .int .i64 x1.1), (15, .ptr 7 0), (16, .rs 10), (17, .int .i64 x1.2.1), (18, .int .i64 x1.2.2.1)], [.cells [.rs 1, .rs 2], .rows Ri x1.2.2.2.1, .rows Ri x1.2.2.2.2.1, .cells [.rs 4, .rs 5], .rows Ri x1.2.2.2.2.2.1, .rows Ri x1.2.2.2.2.2.2.1, .rows Ri x1.2.2.2.2.2.2.2.1, .cells [.rs 8, .rs 9], .rows Ri x1.2.2.2.2.2.2.2.2.1, .rows Ri x1.2.2.2.2.2.2.2.2.2.1, .rows Ri x1.2.2.2.2.2.2.2.2.2.2]⟩ : Int × Int × Int × List Di × List Di × List Di × List Di × List Di × List Di × List Di × List Di → St)) (fun _ => rfl) ?_ d _ h
      intro n1 x1 h K1 hn1
      replace h : law10_BracketSets_L1 d  (iter (law10_BracketSets_L1 d ) n1) x1 = some r := h
      generalize iter (law10_BracketSets_L1 d ) n1 = self1 at h hn1
      unfold law10_BracketSets_L1 at h
      refine run_seq ?_
      refine run_seq ?_
      refine run_reg hm hT hC (law10_BracketSets_g9 (law10_BracketSets_K d) x1) h ?_
      intro y9 h
      refine cn_then ?_
      refine run_cond (v := y9.2.2.2.1) (by kernel_rfl) h ?_ ?_
      ·
        intro h
        refine run_skip ?_
        refine cn_then ?_
        refine run_seq ?_
        refine run_block ?_
        refine run_reg hm hT hC (law10_BracketSets_g11 (law10_BracketSets_K d) y9) h ?_
        intro y11 h
        refine cn_blk ?_
        refine cn_then ?_
        refine run_reg hm hT hC (law10_BracketSets_g10 (law10_BracketSets_K d) y11) h ?_
        intro y10 h
        exact hn1 _ h
      ·
        intro h
        refine run_exit ?_
        refine cn_then_exit ?_
        refine cn_then_exit ?_
        refine cn_blk_eq ?_
        refine cn_then ?_
        refine run_seq ?_
        refine run_seq ?_
        refine run_reg hm hT hC (law10_BracketSets_g12 (law10_BracketSets_K d) y9) h ?_
        intro y12 h
        refine cn_then ?_
        refine run_block ?_
        refine run_loop (G := iter (law10_BracketSets_L2 d )) (S := (fun x2 => ⟨[(11, .ptr 0 0), (12, .ptr 3 0), (13, .rs 6), (14, .int .i64 x2.1), (15, .ptr 7 0), (16, .rs 10), (17, .int .i64 x2.2.1), (19, .int .i64 x2.2.2.1)], [.cells [.rs 1, .rs 2], .rows Ri x2.2.2.2.1, .rows Ri x2.2.2.2.2.1, .cells [.rs 4, .rs 5], .rows Ri x2.2.2.2.2.2.1, .rows Ri x2.2.2.2.2.2.2.1, .rows Ri x2.2.2.2.2.2.2.2.1, .cells [.rs 8, .rs 9], .rows Ri x2.2.2.2.2.2.2.2.2.1, .rows Ri x2.2.2.2.2.2.2.2.2.2.1, .rows Ri x2.2.2.2.2.2.2.2.2.2.2]⟩ : Int × Int × Int × List Di × List Di × List Di × List Di × List Di × List Di × List Di × List Di → St)) (fun _ => rfl) ?_ d _ h
        intro n2 x2 h K2 hn2
        replace h : law10_BracketSets_L2 d  (iter (law10_BracketSets_L2 d ) n2) x2 = some r := h
        generalize iter (law10_BracketSets_L2 d ) n2 = self2 at h hn2
        unfold law10_BracketSets_L2 at h
        refine run_seq ?_
        refine run_seq ?_
        refine run_reg hm hT hC (law10_BracketSets_g13 (law10_BracketSets_K d) x2) h ?_
        intro y13 h
        refine cn_then ?_
        refine run_cond (v := y13.2.2.2.1) (by kernel_rfl) h ?_ ?_
        ·
          intro h
          refine run_skip ?_
          refine cn_then ?_
          refine run_seq ?_
          refine run_block ?_
          refine run_reg hm hT hC (law10_BracketSets_g15 (law10_BracketSets_K d) y13) h ?_
          intro y15 h
          refine cn_blk ?_
          refine cn_then ?_
          refine run_reg hm hT hC (law10_BracketSets_g14 (law10_BracketSets_K d) y15) h ?_
          intro y14 h
          exact hn2 _ h
        ·
          intro h
          refine run_exit ?_
          refine cn_then_exit ?_
          refine cn_then_exit ?_
          refine cn_blk_eq ?_
          refine cn_then ?_
          refine run_seq ?_
          refine run_reg hm hT hC (law10_BracketSets_g16 (law10_BracketSets_K d) y13) h ?_
          intro y16 h
          refine cn_then ?_
          refine run_ret ?_
          cases h
          exact (hend _ (by kernel_rfl)).2
end Go.Proofs.Ytkcpnclgcmnlcaa
