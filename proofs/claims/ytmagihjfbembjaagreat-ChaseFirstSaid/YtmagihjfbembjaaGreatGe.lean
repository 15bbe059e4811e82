/- Walks of the references; the orders agree; examples. -/
import Derived.Test.YtmagihjfbembjaaGreatGd
set_option linter.unusedSimpArgs false
set_option linter.unusedVariables false
namespace Go.Proofs.YtmagihjfbembjaaGreat
open Go Go.Tx Go.Proofs.Tryz
set_option maxRecDepth 100000
set_option maxHeartbeats 0
abbrev slices_Index_int_int_ps : List Pk := [.row RLiE false, .row Ri false]
abbrev slices_Index_int_int_X : Type := DLiE × Di × Unit
abbrev slices_Index_int_int_R : Type := Int
def slices_Index_int_int_enc (r : slices_Index_int_int_R) : LV × List Ob := (.int .i64 r, [])
def slices_Index_int_int_sp (F : slices_Index_int_int_X → Option slices_Index_int_int_R) : Go.Tx.Spec := ⟨52, slices_Index_int_int_ps, slices_Index_int_int_R, F, slices_Index_int_int_enc⟩
abbrev slices_Index_int_int_C : Type := Unit
def slices_Index_int_int_K (_d : Nat) : slices_Index_int_int_C := ()
def slices_Index_int_int_tab (C : slices_Index_int_int_C) : List Go.Tx.Spec := []
abbrev slices_Index_int_int_Y0i : Type := List Di × Int
def slices_Index_int_int_S0i (v : slices_Index_int_int_Y0i) : St := ⟨[(0, .fz Ri v.1), (1, .int .i64 v.2)], []⟩
def slices_Index_int_int_r0 (C : slices_Index_int_int_C) (v : slices_Index_int_int_Y0i) : Dt slices_Index_int_int_Y0i := (Dt.ret (v.1, v.2))
theorem slices_Index_int_int_g0 (C : slices_Index_int_int_C) (v : slices_Index_int_int_Y0i) : treg tysT (orc (slices_Index_int_int_tab C)) 19 (regO (bodyOf f52) 0) false [(0, (.val Ri)), (1, .any)] (slices_Index_int_int_S0i v) some = (slices_Index_int_int_r0 C v).eval fun y => some (slices_Index_int_int_S0i y) := by kernel_rfl
abbrev slices_Index_int_int_Y1 : Type := List Di × Int × Int × Int
def slices_Index_int_int_S1 (v : slices_Index_int_int_Y1) : St := ⟨[(0, .fz Ri v.1), (1, .int .i64 v.2.1), (7, .int .i64 v.2.2.1), (8, .int .i64 v.2.2.2)], []⟩
def slices_Index_int_int_r1 (C : slices_Index_int_int_C) (v : slices_Index_int_int_Y0i) : Dt slices_Index_int_int_Y1 := (Dt.ret (v.1, v.2, (List.length v.1 : Int), (0:Int)))
theorem slices_Index_int_int_g1 (C : slices_Index_int_int_C) (v : slices_Index_int_int_Y0i) : treg tysT (orc (slices_Index_int_int_tab C)) 19 (regO (bodyOf f52) 1) false [(0, (.val Ri)), (1, .any), (7, .any), (8, .any)] (slices_Index_int_int_S0i v) some = (slices_Index_int_int_r1 C v).eval fun y => some (slices_Index_int_int_S1 y) := by kernel_rfl
abbrev slices_Index_int_int_Y2 : Type := List Di × Int × Int × Int × Bool
def slices_Index_int_int_S2 (v : slices_Index_int_int_Y2) : St := ⟨[(0, .fz Ri v.1), (1, .int .i64 v.2.1), (7, .int .i64 v.2.2.1), (8, .int .i64 v.2.2.2.1), (9, .bool v.2.2.2.2)], []⟩
def slices_Index_int_int_r2 (C : slices_Index_int_int_C) (v : slices_Index_int_int_Y1) : Dt slices_Index_int_int_Y2 := (Dt.ret (v.1, v.2.1, v.2.2.1, v.2.2.2, (decide (v.2.2.2 < v.2.2.1))))
theorem slices_Index_int_int_g2 (C : slices_Index_int_int_C) (v : slices_Index_int_int_Y1) : treg tysT (orc (slices_Index_int_int_tab C)) 19 (regO (bodyOf f52) 2) false [(0, (.val Ri)), (1, .any), (7, .any), (8, .any), (9, .any)] (slices_Index_int_int_S1 v) some = (slices_Index_int_int_r2 C v).eval fun y => some (slices_Index_int_int_S2 y) := by kernel_rfl
abbrev slices_Index_int_int_Y3 : Type := List Di × Int × Int × Int × Int
def slices_Index_int_int_S3 (v : slices_Index_int_int_Y3) : St := ⟨[(0, .fz Ri v.1), (1, .int .i64 v.2.1), (5, .int .i64 v.2.2.1), (7, .int .i64 v.2.2.2.1), (8, .int .i64 v.2.2.2.2)], []⟩
def slices_Index_int_int_r3 (C : slices_Index_int_int_C) (v : slices_Index_int_int_Y2) : Dt slices_Index_int_int_Y3 := (Dt.ret (v.1, v.2.1, v.2.2.2.1, v.2.2.1, v.2.2.2.1))
theorem slices_Index_int_int_g3 (C : slices_Index_int_int_C) (v : slices_Index_int_int_Y2) : treg tysT (orc (slices_Index_int_int_tab C)) 19 (regO (bodyOf f52) 3) false [(0, (.val Ri)), (1, .any), (5, .any), (7, .any), (8, .any)] (slices_Index_int_int_S2 v) some = (slices_Index_int_int_r3 C v).eval fun y => some (slices_Index_int_int_S3 y) := by kernel_rfl
abbrev slices_Index_int_int_Y4 : Type := List Di × Int × Int × Int × Int × Bool
def slices_Index_int_int_S4 (v : slices_Index_int_int_Y4) : St := ⟨[(0, .fz Ri v.1), (1, .int .i64 v.2.1), (5, .int .i64 v.2.2.1), (7, .int .i64 v.2.2.2.1), (8, .int .i64 v.2.2.2.2.1), (16, .bool v.2.2.2.2.2)], []⟩
def slices_Index_int_int_r4 (C : slices_Index_int_int_C) (v : slices_Index_int_int_Y3) : Dt slices_Index_int_int_Y4 := (Dt.ite (inB v.2.2.1 (List.length v.1)) (Dt.ret (v.1, v.2.1, v.2.2.1, v.2.2.2.1, v.2.2.2.2, (v.2.1 == (elt zi v.1 (v.2.2.1).toNat).1))) Dt.fail)
theorem slices_Index_int_int_g4 (C : slices_Index_int_int_C) (v : slices_Index_int_int_Y3) : treg tysT (orc (slices_Index_int_int_tab C)) 19 (regO (bodyOf f52) 4) false [(0, (.val Ri)), (1, .any), (5, .any), (7, .any), (8, .any), (16, .any)] (slices_Index_int_int_S3 v) some = (slices_Index_int_int_r4 C v).eval fun y => some (slices_Index_int_int_S4 y) := by kernel_rfl
abbrev slices_Index_int_int_Y5 : Type := Int
def slices_Index_int_int_S5 (v : slices_Index_int_int_Y5) : St := ⟨[(4, .int .i64 v)], []⟩
def slices_Index_int_int_r5 (C : slices_Index_int_int_C) (v : slices_Index_int_int_Y4) : Dt slices_Index_int_int_Y5 := (Dt.ret v.2.2.1)
theorem slices_Index_int_int_g5 (C : slices_Index_int_int_C) (v : slices_Index_int_int_Y4) : treg tysT (orc (slices_Index_int_int_tab C)) 19 (regO (bodyOf f52) 5) false [(4, .any)] (slices_Index_int_int_S4 v) some = (slices_Index_int_int_r5 C v).eval fun y => some (slices_Index_int_int_S5 y) := by kernel_rfl
def slices_Index_int_int_r6 (C : slices_Index_int_int_C) (v : slices_Index_int_int_Y4) : Dt slices_Index_int_int_Y1 := (Dt.ret (v.1, v.2.1, v.2.2.2.1, (IntKind.wrap .i64 (v.2.2.2.2.1 + (1:Int)))))
theorem slices_Index_int_int_g6 (C : slices_Index_int_int_C) (v : slices_Index_int_int_Y4) : treg tysT (orc (slices_Index_int_int_tab C)) 19 (regO (bodyOf f52) 6) false [(0, (.val Ri)), (1, .any), (7, .any), (8, .any)] (slices_Index_int_int_S4 v) some = (slices_Index_int_int_r6 C v).eval fun y => some (slices_Index_int_int_S1 y) := by kernel_rfl
def slices_Index_int_int_r7 (C : slices_Index_int_int_C) (v : slices_Index_int_int_Y2) : Dt slices_Index_int_int_Y5 := (Dt.ret (-1:Int))
theorem slices_Index_int_int_g7 (C : slices_Index_int_int_C) (v : slices_Index_int_int_Y2) : treg tysT (orc (slices_Index_int_int_tab C)) 19 (regO (bodyOf f52) 7) false [(4, .any)] (slices_Index_int_int_S2 v) some = (slices_Index_int_int_r7 C v).eval fun y => some (slices_Index_int_int_S5 y) := by kernel_rfl
def slices_Index_int_int_L1 (d : Nat) (self1 : (List Di × Int × Int × Int) → Option slices_Index_int_int_R) (x1 : List Di × Int × Int × Int) : Option slices_Index_int_int_R :=
  (slices_Index_int_int_r2 (slices_Index_int_int_K d) x1).eval fun y2 =>
  bif y2.2.2.2.2 then ((slices_Index_int_int_r3 (slices_Index_int_int_K d) y2).eval fun y3 =>
  (slices_Index_int_int_r4 (slices_Index_int_int_K d) y3).eval fun y4 =>
  bif y4.2.2.2.2.2 then ((slices_Index_int_int_r5 (slices_Index_int_int_K d) y4).eval fun y5 =>
  some y5) else ((slices_Index_int_int_r6 (slices_Index_int_int_K d) y4).eval fun y6 =>
  self1 y6)) else ((slices_Index_int_int_r7 (slices_Index_int_int_K d) y2).eval fun y7 =>
  some y7)
def F_slices_Index_int_int (d : Nat) (x : slices_Index_int_int_X) : Option slices_Index_int_int_R :=
  (slices_Index_int_int_r0 (slices_Index_int_int_K d) (x.1.1, x.2.1.1)).eval fun y0 =>
  (slices_Index_int_int_r1 (slices_Index_int_int_K d) y0).eval fun y1 =>
  iter (slices_Index_int_int_L1 d ) d y1
theorem slices_Index_int_int_cok (d : Nat) : COK prog (slices_Index_int_int_sp (F_slices_Index_int_int d)) := by
  have hm : prog.follows .mixedOrders = true := mixed
  have hT := tys
  have hC0 : OrcOK prog (orc (slices_Index_int_int_tab (slices_Index_int_int_K d))) := orc_ok (by
    intro S hS
    simp only [slices_Index_int_int_tab, List.mem_cons, List.not_mem_nil, or_false] at hS
    all_goals first | cases hS | exact hS.elim)
  have hC : OrcOK prog (orc (slices_Index_int_int_tab (slices_Index_int_int_K d))) := hC0
  refine cok_of (c := bodyOf f52) (fn := f52) hT (by kernel_rfl) (by kernel_rfl) (by decide) fun x r h w0 φ0 Q hend => ?_
  replace h : F_slices_Index_int_int d x = some r := h
  unfold F_slices_Index_int_int at h
  show Run prog w0 φ0 19 (bodyOf f52) ⟨[(0, .fz Ri x.1.1), (1, .int .i64 x.2.1.1)], []⟩ Q
  refine run_seq ?_
  refine run_reg hm hT hC (slices_Index_int_int_g0 (slices_Index_int_int_K d) (x.1.1, x.2.1.1)) h ?_
  intro y0 h
  refine cn_then ?_
  refine run_seq ?_
  refine run_seq ?_
  refine run_reg hm hT hC (slices_Index_int_int_g1 (slices_Index_int_int_K d) y0) h ?_
  intro y1 h
  refine cn_then ?_
  refine run_block ?_
  refine run_loop (G := iter (slices_Index_int_int_L1 d )) (S := (fun x1 => ⟨[(0, .fz Ri x1.1), (1, .int .i64 x1.2.1), (7, .int .i64 x1.2.2.1), (8, .int .i64 x1.2.2.2)], []⟩ : List Di × Int × Int × Int → St)) (fun _ => rfl) ?_ d _ h
  intro n1 x1 h K1 hn1
  replace h : slices_Index_int_int_L1 d  (iter (slices_Index_int_int_L1 d ) n1) x1 = some r := h
  generalize iter (slices_Index_int_int_L1 d ) n1 = self1 at h hn1
  unfold slices_Index_int_int_L1 at h
  refine run_seq ?_
  refine run_reg hm hT hC (slices_Index_int_int_g2 (slices_Index_int_int_K d) x1) h ?_
  intro y2 h
  refine cn_then ?_
  refine run_seq ?_
  refine run_cond (v := y2.2.2.2.2) (by kernel_rfl) h ?_ ?_
  ·
    intro h
    refine run_skip ?_
    refine cn_then ?_
    refine run_seq ?_
    refine run_block ?_
    refine run_seq ?_
    refine run_reg hm hT hC (slices_Index_int_int_g3 (slices_Index_int_int_K d) y2) h ?_
    intro y3 h
    refine cn_then ?_
    refine run_seq ?_
    refine run_reg hm hT hC (slices_Index_int_int_g4 (slices_Index_int_int_K d) y3) h ?_
    intro y4 h
    refine cn_then ?_
    refine run_cond (v := y4.2.2.2.2.2) (by kernel_rfl) h ?_ ?_
    ·
      intro h
      refine run_seq ?_
      refine run_reg hm hT hC (slices_Index_int_int_g5 (slices_Index_int_int_K d) y4) h ?_
      intro y5 h
      refine cn_then ?_
      refine run_ret ?_
      refine cn_blk_ret ?_
      refine cn_then_ret ?_
      refine cn_then_ret ?_
      refine cn_blk_ret ?_
      refine cn_then_ret ?_
      cases h
      exact (hend _ (by kernel_rfl)).2
    ·
      intro h
      refine run_skip ?_
      refine cn_blk ?_
      refine cn_then ?_
      refine run_reg hm hT hC (slices_Index_int_int_g6 (slices_Index_int_int_K d) y4) h ?_
      intro y6 h
      exact hn1 _ h
  ·
    intro h
    refine run_exit ?_
    refine cn_then_exit ?_
    refine cn_then_exit ?_
    refine cn_blk_eq ?_
    refine cn_then ?_
    refine run_seq ?_
    refine run_reg hm hT hC (slices_Index_int_int_g7 (slices_Index_int_int_K d) y2) h ?_
    intro y7 h
    refine cn_then ?_
    refine run_ret ?_
    cases h
    exact (hend _ (by kernel_rfl)).2
abbrev field_Rank_ps : List Pk := [.row RLiiiE true, .row Ri false, .row Rii true]
abbrev field_Rank_X : Type := DLiiiE × Di × Dii × Unit
abbrev field_Rank_R : Type := Int × Int
def field_Rank_enc (r : field_Rank_R) : LV × List Ob := (.tup [.int .i64 r.1, .int .i64 r.2], [])
def field_Rank_sp (F : field_Rank_X → Option field_Rank_R) : Go.Tx.Spec := ⟨32, field_Rank_ps, field_Rank_R, F, field_Rank_enc⟩
abbrev field_Rank_C : Type := (field_Order_X → Option field_Order_R) × (slices_Index_int_int_X → Option slices_Index_int_int_R) × Unit
def field_Rank_K (d : Nat) : field_Rank_C := (F_field_Order d, F_slices_Index_int_int d, ())
def field_Rank_tab (C : field_Rank_C) : List Go.Tx.Spec := [field_Order_sp C.1, slices_Index_int_int_sp C.2.1]
abbrev field_Rank_Y0i : Type := List Diii × Int × Int × Int
def field_Rank_S0i (v : field_Rank_Y0i) : St := ⟨[(0, .agg [.fz Riii v.1]), (1, .int .i64 v.2.1), (2, .agg [.int .i64 v.2.2.1, .int .i64 v.2.2.2])], []⟩
abbrev field_Rank_Y0 : Type := Int × List Diii × Int × Int
def field_Rank_S0 (v : field_Rank_Y0) : St := ⟨[(1, .int .i64 v.1), (3, .ptr 0 0), (5, .ptr 1 0)], [.cells [.fz Riii v.2.1], .cells [.int .i64 v.2.2.1, .int .i64 v.2.2.2]]⟩
def field_Rank_r0 (C : field_Rank_C) (v : field_Rank_Y0i) : Dt field_Rank_Y0 := (Dt.ret (v.2.1, v.1, v.2.2.1, v.2.2.2))
theorem field_Rank_g0 (C : field_Rank_C) (v : field_Rank_Y0i) : treg tysT (orc (field_Rank_tab C)) 26 (regO (bodyOf f32) 0) false [(1, .any), (3, (.box [.val Riii])), (5, .any)] (field_Rank_S0i v) some = (field_Rank_r0 C v).eval fun y => some (field_Rank_S0 y) := by kernel_rfl
abbrev field_Rank_Y1 : Type := Int × Int × List Di
def field_Rank_S1 (v : field_Rank_Y1) : St := ⟨[(1, .int .i64 v.1), (8, .rs 0), (9, .int .i64 v.2.1)], [.rows Ri v.2.2]⟩
def field_Rank_r1 (C : field_Rank_C) (v : field_Rank_Y0) : Dt field_Rank_Y1 := (Dt.bnd (C.1 ((v.2.1, ()), (v.2.2.1, v.2.2.2, ()), ())) fun r1 => (Dt.ret (v.1, r1.2, r1.1)))
theorem field_Rank_g1 (C : field_Rank_C) (v : field_Rank_Y0) : treg tysT (orc (field_Rank_tab C)) 26 (regO (bodyOf f32) 1) false [(1, .any), (8, (.own Ri)), (9, .any)] (field_Rank_S0 v) some = (field_Rank_r1 C v).eval fun y => some (field_Rank_S1 y) := by kernel_rfl
abbrev field_Rank_Y2 : Type := Int × Int × Bool × List Di
def field_Rank_S2 (v : field_Rank_Y2) : St := ⟨[(1, .int .i64 v.1), (8, .rs 0), (9, .int .i64 v.2.1), (18, .bool v.2.2.1)], [.rows Ri v.2.2.2]⟩
def field_Rank_r2 (C : field_Rank_C) (v : field_Rank_Y1) : Dt field_Rank_Y2 := (Dt.ret (v.1, v.2.1, (v.2.1 != (0:Int)), v.2.2))
theorem field_Rank_g2 (C : field_Rank_C) (v : field_Rank_Y1) : treg tysT (orc (field_Rank_tab C)) 26 (regO (bodyOf f32) 2) false [(1, .any), (8, (.own Ri)), (9, .any), (18, .any)] (field_Rank_S1 v) some = (field_Rank_r2 C v).eval fun y => some (field_Rank_S2 y) := by kernel_rfl
abbrev field_Rank_Y3 : Type := Int × Int
def field_Rank_S3 (v : field_Rank_Y3) : St := ⟨[(6, .int .i64 v.1), (7, .int .i64 v.2)], []⟩
def field_Rank_r3 (C : field_Rank_C) (v : field_Rank_Y2) : Dt field_Rank_Y3 := (Dt.ret ((0:Int), v.2.1))
theorem field_Rank_g3 (C : field_Rank_C) (v : field_Rank_Y2) : treg tysT (orc (field_Rank_tab C)) 26 (regO (bodyOf f32) 3) false [(6, .any), (7, .any)] (field_Rank_S2 v) some = (field_Rank_r3 C v).eval fun y => some (field_Rank_S3 y) := by kernel_rfl
abbrev field_Rank_Y4 : Type := Int
def field_Rank_S4 (v : field_Rank_Y4) : St := ⟨[(10, .int .i64 v)], []⟩
def field_Rank_r4 (C : field_Rank_C) (v : field_Rank_Y2) : Dt field_Rank_Y4 := (Dt.bnd (C.2.1 ((v.2.2.2, ()), (v.1, ()), ())) fun r1 => (Dt.ret r1))
theorem field_Rank_g4 (C : field_Rank_C) (v : field_Rank_Y2) : treg tysT (orc (field_Rank_tab C)) 26 (regO (bodyOf f32) 4) false [(10, .any)] (field_Rank_S2 v) some = (field_Rank_r4 C v).eval fun y => some (field_Rank_S4 y) := by kernel_rfl
abbrev field_Rank_Y5 : Type := Int × Bool
def field_Rank_S5 (v : field_Rank_Y5) : St := ⟨[(10, .int .i64 v.1), (24, .bool v.2)], []⟩
def field_Rank_r5 (C : field_Rank_C) (v : field_Rank_Y4) : Dt field_Rank_Y5 := (Dt.ret (v, (decide (v < (0:Int)))))
theorem field_Rank_g5 (C : field_Rank_C) (v : field_Rank_Y4) : treg tysT (orc (field_Rank_tab C)) 26 (regO (bodyOf f32) 5) false [(10, .any), (24, .any)] (field_Rank_S4 v) some = (field_Rank_r5 C v).eval fun y => some (field_Rank_S5 y) := by kernel_rfl
def field_Rank_r6 (C : field_Rank_C) (v : field_Rank_Y5) : Dt field_Rank_Y3 := (Dt.ret ((0:Int), (6:Int)))
theorem field_Rank_g6 (C : field_Rank_C) (v : field_Rank_Y5) : treg tysT (orc (field_Rank_tab C)) 26 (regO (bodyOf f32) 6) false [(6, .any), (7, .any)] (field_Rank_S5 v) some = (field_Rank_r6 C v).eval fun y => some (field_Rank_S3 y) := by kernel_rfl
def field_Rank_r7 (C : field_Rank_C) (v : field_Rank_Y5) : Dt field_Rank_Y3 := (Dt.ret (v.1, (0:Int)))
theorem field_Rank_g7 (C : field_Rank_C) (v : field_Rank_Y5) : treg tysT (orc (field_Rank_tab C)) 26 (regO (bodyOf f32) 7) false [(6, .any), (7, .any)] (field_Rank_S5 v) some = (field_Rank_r7 C v).eval fun y => some (field_Rank_S3 y) := by kernel_rfl
def F_field_Rank (d : Nat) (x : field_Rank_X) : Option field_Rank_R :=
  (field_Rank_r0 (field_Rank_K d) (x.1.1, x.2.1.1, x.2.2.1.1, x.2.2.1.2.1)).eval fun y0 =>
  (field_Rank_r1 (field_Rank_K d) y0).eval fun y1 =>
  (field_Rank_r2 (field_Rank_K d) y1).eval fun y2 =>
  bif y2.2.2.1 then ((field_Rank_r3 (field_Rank_K d) y2).eval fun y3 =>
  some y3) else ((field_Rank_r4 (field_Rank_K d) y2).eval fun y4 =>
  (field_Rank_r5 (field_Rank_K d) y4).eval fun y5 =>
  bif y5.2 then ((field_Rank_r6 (field_Rank_K d) y5).eval fun y6 =>
  some y6) else ((field_Rank_r7 (field_Rank_K d) y5).eval fun y7 =>
  some y7))
theorem field_Rank_cok (d : Nat) : COK prog (field_Rank_sp (F_field_Rank d)) := by
  have hm : prog.follows .mixedOrders = true := mixed
  have hT := tys
  have hC0 : OrcOK prog (orc (field_Rank_tab (field_Rank_K d))) := orc_ok (by
    intro S hS
    simp only [field_Rank_tab, List.mem_cons, List.not_mem_nil, or_false] at hS
    rcases hS with rfl | rfl
    · exact field_Order_cok d
    · exact slices_Index_int_int_cok d)
  have hC : OrcOK prog (orc (field_Rank_tab (field_Rank_K d))) := hC0
  refine cok_of (c := bodyOf f32) (fn := f32) hT (by kernel_rfl) (by kernel_rfl) (by decide) fun x r h w0 φ0 Q hend => ?_
  replace h : F_field_Rank d x = some r := h
  unfold F_field_Rank at h
  show Run prog w0 φ0 26 (bodyOf f32) ⟨[(0, .agg [.fz Riii x.1.1]), (1, .int .i64 x.2.1.1), (2, .agg [.int .i64 x.2.2.1.1, .int .i64 x.2.2.1.2.1])], []⟩ Q
  refine run_seq ?_
  refine run_reg hm hT hC (field_Rank_g0 (field_Rank_K d) (x.1.1, x.2.1.1, x.2.2.1.1, x.2.2.1.2.1)) h ?_
  intro y0 h
  refine cn_then ?_
  refine run_seq ?_
  refine run_reg hm hT hC (field_Rank_g1 (field_Rank_K d) y0) h ?_
  intro y1 h
  refine cn_then ?_
  refine run_seq ?_
  refine run_seq ?_
  refine run_reg hm hT hC (field_Rank_g2 (field_Rank_K d) y1) h ?_
  intro y2 h
  refine cn_then ?_
  refine run_cond (v := y2.2.2.1) (by kernel_rfl) h ?_ ?_
  ·
    intro h
    refine run_seq ?_
    refine run_reg hm hT hC (field_Rank_g3 (field_Rank_K d) y2) h ?_
    intro y3 h
    refine cn_then ?_
    refine run_ret ?_
    refine cn_then_ret ?_
    cases h
    exact (hend _ (by kernel_rfl)).2
  ·
    intro h
    refine run_skip ?_
    refine cn_then ?_
    refine run_seq ?_
    refine run_reg hm hT hC (field_Rank_g4 (field_Rank_K d) y2) h ?_
    intro y4 h
    refine cn_then ?_
    refine run_seq ?_
    refine run_seq ?_
    refine run_reg hm hT hC (field_Rank_g5 (field_Rank_K d) y4) h ?_
    intro y5 h
    refine cn_then ?_
    refine run_cond (v := y5.2) (by kernel_rfl) h ?_ ?_
    ·
      intro h
      refine run_seq ?_
      refine run_reg hm hT hC (field_Rank_g6 (field_Rank_K d) y5) h ?_
      intro y6 h
      refine cn_then ?_
      refine run_ret ?_
      refine cn_then_ret ?_
      cases h
      exact (hend _ (by kernel_rfl)).2
    ·
      intro h
      refine run_skip ?_
      refine cn_then ?_
      refine run_seq ?_
      refine run_reg hm hT hC (field_Rank_g7 (field_Rank_K d) y5) h ?_
      intro y7 h
      refine cn_then ?_
      refine run_ret ?_
      cases h
      exact (hend _ (by kernel_rfl)).2
abbrev chase_check_ps : List Pk := [.row RLiiiE true, .row Ri false, .row Rii true, .row Ri false]
abbrev chase_check_X : Type := DLiiiE × Di × Dii × Di × Unit
abbrev chase_check_R : Type := Int
def chase_check_enc (r : chase_check_R) : LV × List Ob := (.int .i64 r, [])
def chase_check_sp (F : chase_check_X → Option chase_check_R) : Go.Tx.Spec := ⟨28, chase_check_ps, chase_check_R, F, chase_check_enc⟩
abbrev chase_check_C : Type := (field_Rank_X → Option field_Rank_R) × Unit
def chase_check_K (d : Nat) : chase_check_C := (F_field_Rank d, ())
def chase_check_tab (C : chase_check_C) : List Go.Tx.Spec := [field_Rank_sp C.1]
abbrev chase_check_Y0i : Type := List Diii × Int × Int × Int × Int
def chase_check_S0i (v : chase_check_Y0i) : St := ⟨[(0, .agg [.fz Riii v.1]), (1, .int .i64 v.2.1), (2, .agg [.int .i64 v.2.2.1, .int .i64 v.2.2.2.1]), (3, .int .i64 v.2.2.2.2)], []⟩
abbrev chase_check_Y0 : Type := Int × Int × List Diii × Int × Int
def chase_check_S0 (v : chase_check_Y0) : St := ⟨[(1, .int .i64 v.1), (3, .int .i64 v.2.1), (4, .ptr 0 0), (6, .ptr 1 0)], [.cells [.fz Riii v.2.2.1], .cells [.int .i64 v.2.2.2.1, .int .i64 v.2.2.2.2]]⟩
def chase_check_r0 (C : chase_check_C) (v : chase_check_Y0i) : Dt chase_check_Y0 := (Dt.ret (v.2.1, v.2.2.2.2, v.1, v.2.2.1, v.2.2.2.1))
theorem chase_check_g0 (C : chase_check_C) (v : chase_check_Y0i) : treg tysT (orc (chase_check_tab C)) 32 (regO (bodyOf f28) 0) false [(1, .any), (3, .any), (4, (.box [.val Riii])), (6, .any)] (chase_check_S0i v) some = (chase_check_r0 C v).eval fun y => some (chase_check_S0 y) := by kernel_rfl
abbrev chase_check_Y1 : Type := Int × Int
def chase_check_S1 (v : chase_check_Y1) : St := ⟨[(3, .int .i64 v.1), (10, .int .i64 v.2)], []⟩
def chase_check_r1 (C : chase_check_C) (v : chase_check_Y0) : Dt chase_check_Y1 := (Dt.bnd (C.1 ((v.2.2.1, ()), (v.1, ()), (v.2.2.2.1, v.2.2.2.2, ()), ())) fun r1 => (Dt.ret (v.2.1, r1.2)))
theorem chase_check_g1 (C : chase_check_C) (v : chase_check_Y0) : treg tysT (orc (chase_check_tab C)) 32 (regO (bodyOf f28) 1) false [(3, .any), (10, .any)] (chase_check_S0 v) some = (chase_check_r1 C v).eval fun y => some (chase_check_S1 y) := by kernel_rfl
abbrev chase_check_Y2 : Type := Int × Int × Bool
def chase_check_S2 (v : chase_check_Y2) : St := ⟨[(3, .int .i64 v.1), (10, .int .i64 v.2.1), (23, .bool v.2.2)], []⟩
def chase_check_r2 (C : chase_check_C) (v : chase_check_Y1) : Dt chase_check_Y2 := (Dt.ite (v.2 != (0:Int)) (Dt.ret (v.1, v.2, (v.2 != (6:Int)))) (Dt.ret (v.1, v.2, false)))
theorem chase_check_g2 (C : chase_check_C) (v : chase_check_Y1) : treg tysT (orc (chase_check_tab C)) 32 (regO (bodyOf f28) 2) false [(3, .any), (10, .any), (23, .any)] (chase_check_S1 v) some = (chase_check_r2 C v).eval fun y => some (chase_check_S2 y) := by kernel_rfl
abbrev chase_check_Y3 : Type := Int
def chase_check_S3 (v : chase_check_Y3) : St := ⟨[(8, .int .i64 v)], []⟩
def chase_check_r3 (C : chase_check_C) (v : chase_check_Y2) : Dt chase_check_Y3 := (Dt.ret v.2.1)
theorem chase_check_g3 (C : chase_check_C) (v : chase_check_Y2) : treg tysT (orc (chase_check_tab C)) 32 (regO (bodyOf f28) 3) false [(8, .any)] (chase_check_S2 v) some = (chase_check_r3 C v).eval fun y => some (chase_check_S3 y) := by kernel_rfl
abbrev chase_check_Y4 : Type := Int × Bool
def chase_check_S4 (v : chase_check_Y4) : St := ⟨[(10, .int .i64 v.1), (30, .bool v.2)], []⟩
def chase_check_r4 (C : chase_check_C) (v : chase_check_Y2) : Dt chase_check_Y4 := (Dt.ite (decide (v.1 < (0:Int))) (Dt.ret (v.2.1, true)) (Dt.ret (v.2.1, (decide (v.1 > (64:Int))))))
theorem chase_check_g4 (C : chase_check_C) (v : chase_check_Y2) : treg tysT (orc (chase_check_tab C)) 32 (regO (bodyOf f28) 4) false [(10, .any), (30, .any)] (chase_check_S2 v) some = (chase_check_r4 C v).eval fun y => some (chase_check_S4 y) := by kernel_rfl
def chase_check_r5 (C : chase_check_C) (v : chase_check_Y4) : Dt chase_check_Y3 := (Dt.ret (2:Int))
theorem chase_check_g5 (C : chase_check_C) (v : chase_check_Y4) : treg tysT (orc (chase_check_tab C)) 32 (regO (bodyOf f28) 5) false [(8, .any)] (chase_check_S4 v) some = (chase_check_r5 C v).eval fun y => some (chase_check_S3 y) := by kernel_rfl
def chase_check_r6 (C : chase_check_C) (v : chase_check_Y4) : Dt chase_check_Y3 := (Dt.ret v.1)
theorem chase_check_g6 (C : chase_check_C) (v : chase_check_Y4) : treg tysT (orc (chase_check_tab C)) 32 (regO (bodyOf f28) 6) false [(8, .any)] (chase_check_S4 v) some = (chase_check_r6 C v).eval fun y => some (chase_check_S3 y) := by kernel_rfl
def F_chase_check (d : Nat) (x : chase_check_X) : Option chase_check_R :=
  (chase_check_r0 (chase_check_K d) (x.1.1, x.2.1.1, x.2.2.1.1, x.2.2.1.2.1, x.2.2.2.1.1)).eval fun y0 =>
  (chase_check_r1 (chase_check_K d) y0).eval fun y1 =>
  (chase_check_r2 (chase_check_K d) y1).eval fun y2 =>
  bif y2.2.2 then ((chase_check_r3 (chase_check_K d) y2).eval fun y3 =>
  some y3) else ((chase_check_r4 (chase_check_K d) y2).eval fun y4 =>
  bif y4.2 then ((chase_check_r5 (chase_check_K d) y4).eval fun y5 =>
  some y5) else ((chase_check_r6 (chase_check_K d) y4).eval fun y6 =>
  some y6))
theorem chase_check_cok (d : Nat) : COK prog (chase_check_sp (F_chase_check d)) := by
  have hm : prog.follows .mixedOrders = true := mixed
  have hT := tys
  have hC0 : OrcOK prog (orc (chase_check_tab (chase_check_K d))) := orc_ok (by
    intro S hS
    simp only [chase_check_tab, List.mem_cons, List.not_mem_nil, or_false] at hS
    subst hS; exact field_Rank_cok d)
  have hC : OrcOK prog (orc (chase_check_tab (chase_check_K d))) := hC0
  refine cok_of (c := bodyOf f28) (fn := f28) hT (by kernel_rfl) (by kernel_rfl) (by decide) fun x r h w0 φ0 Q hend => ?_
  replace h : F_chase_check d x = some r := h
  unfold F_chase_check at h
  show Run prog w0 φ0 32 (bodyOf f28) ⟨[(0, .agg [.fz Riii x.1.1]), (1, .int .i64 x.2.1.1), (2, .agg [.int .i64 x.2.2.1.1, .int .i64 x.2.2.1.2.1]), (3, .int .i64 x.2.2.2.1.1)], []⟩ Q
  refine run_seq ?_
  refine run_reg hm hT hC (chase_check_g0 (chase_check_K d) (x.1.1, x.2.1.1, x.2.2.1.1, x.2.2.1.2.1, x.2.2.2.1.1)) h ?_
  intro y0 h
  refine cn_then ?_
  refine run_seq ?_
  refine run_reg hm hT hC (chase_check_g1 (chase_check_K d) y0) h ?_
  intro y1 h
  refine cn_then ?_
  refine run_seq ?_
  refine run_seq ?_
  refine run_reg hm hT hC (chase_check_g2 (chase_check_K d) y1) h ?_
  intro y2 h
  refine cn_then ?_
  refine run_cond (v := y2.2.2) (by kernel_rfl) h ?_ ?_
  ·
    intro h
    refine run_seq ?_
    refine run_reg hm hT hC (chase_check_g3 (chase_check_K d) y2) h ?_
    intro y3 h
    refine cn_then ?_
    refine run_ret ?_
    refine cn_then_ret ?_
    cases h
    exact (hend _ (by kernel_rfl)).2
  ·
    intro h
    refine run_skip ?_
    refine cn_then ?_
    refine run_seq ?_
    refine run_seq ?_
    refine run_reg hm hT hC (chase_check_g4 (chase_check_K d) y2) h ?_
    intro y4 h
    refine cn_then ?_
    refine run_cond (v := y4.2) (by kernel_rfl) h ?_ ?_
    ·
      intro h
      refine run_seq ?_
      refine run_reg hm hT hC (chase_check_g5 (chase_check_K d) y4) h ?_
      intro y5 h
      refine cn_then ?_
      refine run_ret ?_
      refine cn_then_ret ?_
      cases h
      exact (hend _ (by kernel_rfl)).2
    ·
      intro h
      refine run_skip ?_
      refine cn_then ?_
      refine run_seq ?_
      refine run_reg hm hT hC (chase_check_g6 (chase_check_K d) y4) h ?_
      intro y6 h
      refine cn_then ?_
      refine run_ret ?_
      cases h
      exact (hend _ (by kernel_rfl)).2
abbrev chase_other_ps : List Pk := [.row Riiii true, .row Ri false]
abbrev chase_other_X : Type := Diiii × Di × Unit
abbrev chase_other_R : Type := Int
def chase_other_enc (r : chase_other_R) : LV × List Ob := (.int .i64 r, [])
def chase_other_sp (F : chase_other_X → Option chase_other_R) : Go.Tx.Spec := ⟨31, chase_other_ps, chase_other_R, F, chase_other_enc⟩
abbrev chase_other_C : Type := Unit
def chase_other_K (_d : Nat) : chase_other_C := ()
def chase_other_tab (C : chase_other_C) : List Go.Tx.Spec := []
abbrev chase_other_Y0i : Type := Int × Int × Int × Int × Int
def chase_other_S0i (v : chase_other_Y0i) : St := ⟨[(0, .agg [.int .i64 v.1, .int .i64 v.2.1, .int .i64 v.2.2.1, .int .i64 v.2.2.2.1]), (1, .int .i64 v.2.2.2.2)], []⟩
abbrev chase_other_Y0 : Type := Int × Int × Int × Int × Int
def chase_other_S0 (v : chase_other_Y0) : St := ⟨[(1, .int .i64 v.1), (2, .ptr 0 0)], [.cells [.int .i64 v.2.1, .int .i64 v.2.2.1, .int .i64 v.2.2.2.1, .int .i64 v.2.2.2.2]]⟩
def chase_other_r0 (C : chase_other_C) (v : chase_other_Y0i) : Dt chase_other_Y0 := (Dt.ret (v.2.2.2.2, v.1, v.2.1, v.2.2.1, v.2.2.2.1))
theorem chase_other_g0 (C : chase_other_C) (v : chase_other_Y0i) : treg tysT (orc (chase_other_tab C)) 19 (regO (bodyOf f31) 0) false [(1, .any), (2, .any)] (chase_other_S0i v) some = (chase_other_r0 C v).eval fun y => some (chase_other_S0 y) := by kernel_rfl
abbrev chase_other_Y1 : Type := Int × Int × Int
def chase_other_S1 (v : chase_other_Y1) : St := ⟨[(1, .int .i64 v.1), (5, .ptr 0 0)], [.cells [.int .i64 v.2.1, .int .i64 v.2.2]]⟩
def chase_other_r1 (C : chase_other_C) (v : chase_other_Y0) : Dt chase_other_Y1 := (Dt.ret (v.1, v.2.2.2.1, v.2.2.2.2))
theorem chase_other_g1 (C : chase_other_C) (v : chase_other_Y0) : treg tysT (orc (chase_other_tab C)) 19 (regO (bodyOf f31) 1) false [(1, .any), (5, .any)] (chase_other_S0 v) some = (chase_other_r1 C v).eval fun y => some (chase_other_S1 y) := by kernel_rfl
abbrev chase_other_Y2 : Type := Bool × Int × Int
def chase_other_S2 (v : chase_other_Y2) : St := ⟨[(5, .ptr 0 0), (14, .bool v.1)], [.cells [.int .i64 v.2.1, .int .i64 v.2.2]]⟩
def chase_other_r2 (C : chase_other_C) (v : chase_other_Y1) : Dt chase_other_Y2 := (Dt.ret ((v.2.1 == v.1), v.2.1, v.2.2))
theorem chase_other_g2 (C : chase_other_C) (v : chase_other_Y1) : treg tysT (orc (chase_other_tab C)) 19 (regO (bodyOf f31) 2) false [(5, .any), (14, .any)] (chase_other_S1 v) some = (chase_other_r2 C v).eval fun y => some (chase_other_S2 y) := by kernel_rfl
abbrev chase_other_Y3 : Type := Int
def chase_other_S3 (v : chase_other_Y3) : St := ⟨[(4, .int .i64 v)], []⟩
def chase_other_r3 (C : chase_other_C) (v : chase_other_Y2) : Dt chase_other_Y3 := (Dt.ret v.2.2)
theorem chase_other_g3 (C : chase_other_C) (v : chase_other_Y2) : treg tysT (orc (chase_other_tab C)) 19 (regO (bodyOf f31) 3) false [(4, .any)] (chase_other_S2 v) some = (chase_other_r3 C v).eval fun y => some (chase_other_S3 y) := by kernel_rfl
def chase_other_r4 (C : chase_other_C) (v : chase_other_Y2) : Dt chase_other_Y3 := (Dt.ret v.2.1)
theorem chase_other_g4 (C : chase_other_C) (v : chase_other_Y2) : treg tysT (orc (chase_other_tab C)) 19 (regO (bodyOf f31) 4) false [(4, .any)] (chase_other_S2 v) some = (chase_other_r4 C v).eval fun y => some (chase_other_S3 y) := by kernel_rfl
def F_chase_other (d : Nat) (x : chase_other_X) : Option chase_other_R :=
  (chase_other_r0 (chase_other_K d) (x.1.1, x.1.2.1, x.1.2.2.1, x.1.2.2.2.1, x.2.1.1)).eval fun y0 =>
  (chase_other_r1 (chase_other_K d) y0).eval fun y1 =>
  (chase_other_r2 (chase_other_K d) y1).eval fun y2 =>
  bif y2.1 then ((chase_other_r3 (chase_other_K d) y2).eval fun y3 =>
  some y3) else ((chase_other_r4 (chase_other_K d) y2).eval fun y4 =>
  some y4)
theorem chase_other_cok (d : Nat) : COK prog (chase_other_sp (F_chase_other d)) := by
  have hm : prog.follows .mixedOrders = true := mixed
  have hT := tys
  have hC0 : OrcOK prog (orc (chase_other_tab (chase_other_K d))) := orc_ok (by
    intro S hS
    simp only [chase_other_tab, List.mem_cons, List.not_mem_nil, or_false] at hS
    all_goals first | cases hS | exact hS.elim)
  have hC : OrcOK prog (orc (chase_other_tab (chase_other_K d))) := hC0
  refine cok_of (c := bodyOf f31) (fn := f31) hT (by kernel_rfl) (by kernel_rfl) (by decide) fun x r h w0 φ0 Q hend => ?_
  replace h : F_chase_other d x = some r := h
  unfold F_chase_other at h
  show Run prog w0 φ0 19 (bodyOf f31) ⟨[(0, .agg [.int .i64 x.1.1, .int .i64 x.1.2.1, .int .i64 x.1.2.2.1, .int .i64 x.1.2.2.2.1]), (1, .int .i64 x.2.1.1)], []⟩ Q
  refine run_seq ?_
  refine run_reg hm hT hC (chase_other_g0 (chase_other_K d) (x.1.1, x.1.2.1, x.1.2.2.1, x.1.2.2.2.1, x.2.1.1)) h ?_
  intro y0 h
  refine cn_then ?_
  refine run_seq ?_
  refine run_reg hm hT hC (chase_other_g1 (chase_other_K d) y0) h ?_
  intro y1 h
  refine cn_then ?_
  refine run_seq ?_
  refine run_seq ?_
  refine run_reg hm hT hC (chase_other_g2 (chase_other_K d) y1) h ?_
  intro y2 h
  refine cn_then ?_
  refine run_cond (v := y2.1) (by kernel_rfl) h ?_ ?_
  ·
    intro h
    refine run_seq ?_
    refine run_reg hm hT hC (chase_other_g3 (chase_other_K d) y2) h ?_
    intro y3 h
    refine cn_then ?_
    refine run_ret ?_
    refine cn_then_ret ?_
    cases h
    exact (hend _ (by kernel_rfl)).2
  ·
    intro h
    refine run_skip ?_
    refine cn_then ?_
    refine run_seq ?_
    refine run_reg hm hT hC (chase_other_g4 (chase_other_K d) y2) h ?_
    intro y4 h
    refine cn_then ?_
    refine run_ret ?_
    cases h
    exact (hend _ (by kernel_rfl)).2
abbrev chase_behind_2_ps : List Pk := [.row Riiii true, .row Riiii true, .ref Ri]
abbrev chase_behind_2_X : Type := Diiii × Diiii × Di × Unit
abbrev chase_behind_2_R : Type := Int
def chase_behind_2_enc (r : chase_behind_2_R) : LV × List Ob := (.int .i64 r, [])
def chase_behind_2_sp (F : chase_behind_2_X → Option chase_behind_2_R) : Go.Tx.Spec := ⟨46, chase_behind_2_ps, chase_behind_2_R, F, chase_behind_2_enc⟩
abbrev chase_behind_2_C : Type := (chase_other_X → Option chase_other_R) × (ratio_Cmp_X → Option ratio_Cmp_R) × (cmp_Or_int_X → Option cmp_Or_int_R) × (cmp_Compare_int_X → Option cmp_Compare_int_R) × Unit
def chase_behind_2_K (d : Nat) : chase_behind_2_C := (F_chase_other d, F_ratio_Cmp d, F_cmp_Or_int d, F_cmp_Compare_int d, ())
def chase_behind_2_tab (C : chase_behind_2_C) : List Go.Tx.Spec := [chase_other_sp C.1, ratio_Cmp_sp C.2.1, cmp_Or_int_sp C.2.2.1, cmp_Compare_int_sp C.2.2.2.1]
abbrev chase_behind_2_Y0i : Type := Int × Int × Int × Int × Int × Int × Int × Int × Di
def chase_behind_2_S0i (v : chase_behind_2_Y0i) : St := ⟨[(0, .agg [.int .i64 v.1, .int .i64 v.2.1, .int .i64 v.2.2.1, .int .i64 v.2.2.2.1]), (1, .agg [.int .i64 v.2.2.2.2.1, .int .i64 v.2.2.2.2.2.1, .int .i64 v.2.2.2.2.2.2.1, .int .i64 v.2.2.2.2.2.2.2.1]), (2, .fp Ri v.2.2.2.2.2.2.2.2 0)], []⟩
abbrev chase_behind_2_Y0 : Type := Di × Int × Int × Int × Int × Int × Int × Int × Int
def chase_behind_2_S0 (v : chase_behind_2_Y0) : St := ⟨[(2, .fp Ri v.1 0), (3, .ptr 0 0), (4, .ptr 1 0)], [.cells [.int .i64 v.2.1, .int .i64 v.2.2.1, .int .i64 v.2.2.2.1, .int .i64 v.2.2.2.2.1], .cells [.int .i64 v.2.2.2.2.2.1, .int .i64 v.2.2.2.2.2.2.1, .int .i64 v.2.2.2.2.2.2.2.1, .int .i64 v.2.2.2.2.2.2.2.2]]⟩
def chase_behind_2_r0 (C : chase_behind_2_C) (v : chase_behind_2_Y0i) : Dt chase_behind_2_Y0 := (Dt.ret (v.2.2.2.2.2.2.2.2, v.1, v.2.1, v.2.2.1, v.2.2.2.1, v.2.2.2.2.1, v.2.2.2.2.2.1, v.2.2.2.2.2.2.1, v.2.2.2.2.2.2.2.1))
theorem chase_behind_2_g0 (C : chase_behind_2_C) (v : chase_behind_2_Y0i) : treg tysT (orc (chase_behind_2_tab C)) 26 (regO (bodyOf f46) 0) false [(2, .any), (3, .any), (4, .any)] (chase_behind_2_S0i v) some = (chase_behind_2_r0 C v).eval fun y => some (chase_behind_2_S0 y) := by kernel_rfl
abbrev chase_behind_2_Y1 : Type := Di × Int × Int × Int × Int × Int × Int × Int × Int × Int
def chase_behind_2_S1 (v : chase_behind_2_Y1) : St := ⟨[(2, .fp Ri v.1 0), (3, .ptr 0 0), (4, .ptr 1 0), (6, .int .i64 v.2.1)], [.cells [.int .i64 v.2.2.1, .int .i64 v.2.2.2.1, .int .i64 v.2.2.2.2.1, .int .i64 v.2.2.2.2.2.1], .cells [.int .i64 v.2.2.2.2.2.2.1, .int .i64 v.2.2.2.2.2.2.2.1, .int .i64 v.2.2.2.2.2.2.2.2.1, .int .i64 v.2.2.2.2.2.2.2.2.2]]⟩
def chase_behind_2_r1 (C : chase_behind_2_C) (v : chase_behind_2_Y0) : Dt chase_behind_2_Y1 := (Dt.bnd (C.2.1 ((v.2.1, v.2.2.1, ()), (v.2.2.2.2.2.1, v.2.2.2.2.2.2.1, ()), ())) fun r1 => (Dt.ret (v.1, r1.1, v.2.1, v.2.2.1, v.2.2.2.1, v.2.2.2.2.1, v.2.2.2.2.2.1, v.2.2.2.2.2.2.1, v.2.2.2.2.2.2.2.1, v.2.2.2.2.2.2.2.2)))
theorem chase_behind_2_g1 (C : chase_behind_2_C) (v : chase_behind_2_Y0) : treg tysT (orc (chase_behind_2_tab C)) 26 (regO (bodyOf f46) 1) false [(2, .any), (3, .any), (4, .any), (6, .any)] (chase_behind_2_S0 v) some = (chase_behind_2_r1 C v).eval fun y => some (chase_behind_2_S1 y) := by kernel_rfl
abbrev chase_behind_2_Y2 : Type := Int
def chase_behind_2_S2 (v : chase_behind_2_Y2) : St := ⟨[(5, .int .i64 v)], []⟩
def chase_behind_2_r2 (C : chase_behind_2_C) (v : chase_behind_2_Y1) : Dt chase_behind_2_Y2 := (Dt.bnd (C.1 ((v.2.2.1, v.2.2.2.1, v.2.2.2.2.1, v.2.2.2.2.2.1, ()), (v.1.1, ()), ())) fun r1 => (Dt.bnd (C.1 ((v.2.2.2.2.2.2.1, v.2.2.2.2.2.2.2.1, v.2.2.2.2.2.2.2.2.1, v.2.2.2.2.2.2.2.2.2, ()), (v.1.1, ()), ())) fun r2 => (Dt.bnd (C.2.2.2.1 ((r1, ()), (r2, ()), ())) fun r3 => (Dt.bnd (C.2.2.1 ((([(v.2.1, ()), (r3, ())] : List Di), ()), ())) fun r4 => (Dt.ret r4)))))
theorem chase_behind_2_g2 (C : chase_behind_2_C) (v : chase_behind_2_Y1) : treg tysT (orc (chase_behind_2_tab C)) 26 (regO (bodyOf f46) 2) true [(5, .any)] (chase_behind_2_S1 v) some = (chase_behind_2_r2 C v).eval fun y => some (chase_behind_2_S2 y) := by kernel_rfl
def F_chase_behind_2 (d : Nat) (x : chase_behind_2_X) : Option chase_behind_2_R :=
  (chase_behind_2_r0 (chase_behind_2_K d) (x.1.1, x.1.2.1, x.1.2.2.1, x.1.2.2.2.1, x.2.1.1, x.2.1.2.1, x.2.1.2.2.1, x.2.1.2.2.2.1, x.2.2.1)).eval fun y0 =>
  (chase_behind_2_r1 (chase_behind_2_K d) y0).eval fun y1 =>
  (chase_behind_2_r2 (chase_behind_2_K d) y1).eval fun y2 =>
  some y2
theorem chase_behind_2_cok (d : Nat) : COK prog (chase_behind_2_sp (F_chase_behind_2 d)) := by
  have hm : prog.follows .mixedOrders = true := mixed
  have hT := tys
  have hC0 : OrcOK prog (orc (chase_behind_2_tab (chase_behind_2_K d))) := orc_ok (by
    intro S hS
    simp only [chase_behind_2_tab, List.mem_cons, List.not_mem_nil, or_false] at hS
    rcases hS with rfl | rfl | rfl | rfl
    · exact chase_other_cok d
    · exact ratio_Cmp_cok d
    · exact cmp_Or_int_cok d
    · exact cmp_Compare_int_cok d)
  have hC : OrcOK prog (orc (chase_behind_2_tab (chase_behind_2_K d))) := hC0
  refine cok_of (c := bodyOf f46) (fn := f46) hT (by kernel_rfl) (by kernel_rfl) (by decide) fun x r h w0 φ0 Q hend => ?_
  replace h : F_chase_behind_2 d x = some r := h
  unfold F_chase_behind_2 at h
  show Run prog w0 φ0 26 (bodyOf f46) ⟨[(0, .agg [.int .i64 x.1.1, .int .i64 x.1.2.1, .int .i64 x.1.2.2.1, .int .i64 x.1.2.2.2.1]), (1, .agg [.int .i64 x.2.1.1, .int .i64 x.2.1.2.1, .int .i64 x.2.1.2.2.1, .int .i64 x.2.1.2.2.2.1]), (2, .fp Ri x.2.2.1 0)], []⟩ Q
  refine run_seq ?_
  refine run_reg hm hT hC (chase_behind_2_g0 (chase_behind_2_K d) (x.1.1, x.1.2.1, x.1.2.2.1, x.1.2.2.2.1, x.2.1.1, x.2.1.2.1, x.2.1.2.2.1, x.2.1.2.2.2.1, x.2.2.1)) h ?_
  intro y0 h
  refine cn_then ?_
  refine run_seq ?_
  refine run_reg hm hT hC (chase_behind_2_g1 (chase_behind_2_K d) y0) h ?_
  intro y1 h
  refine cn_then ?_
  refine run_seq ?_
  refine run_reg hm hT hC (chase_behind_2_g2 (chase_behind_2_K d) y1) h ?_
  intro y2 h
  refine cn_then ?_
  refine run_ret ?_
  cases h
  exact (hend _ (by kernel_rfl)).2
abbrev chase_behind_ps : List Pk := [.row RLiiiE true, .row Ri false, .row Rii true]
abbrev chase_behind_X : Type := DLiiiE × Di × Dii × Unit
abbrev chase_behind_R : Type := List Diiii
def chase_behind_enc (r : chase_behind_R) : LV × List Ob := (.rs 0, [.rows Riiii r])
def chase_behind_sp (F : chase_behind_X → Option chase_behind_R) : Go.Tx.Spec := ⟨29, chase_behind_ps, chase_behind_R, F, chase_behind_enc⟩
abbrev chase_behind_C : Type := (field_Find_X → Option field_Find_R) × (chase_behind_1_X → Option chase_behind_1_R) × (chase_behind_2_X → Option chase_behind_2_R) × Unit
def chase_behind_K (d : Nat) : chase_behind_C := (F_field_Find d, F_chase_behind_1 d, F_chase_behind_2 d, ())
def chase_behind_tab (C : chase_behind_C) : List Go.Tx.Spec := [field_Find_sp C.1, chase_behind_2_sp C.2.2.1]
abbrev chase_behind_Y0i : Type := List Diii × Int × Int × Int
def chase_behind_S0i (v : chase_behind_Y0i) : St := ⟨[(0, .agg [.fz Riii v.1]), (1, .int .i64 v.2.1), (2, .agg [.int .i64 v.2.2.1, .int .i64 v.2.2.2])], []⟩
abbrev chase_behind_Y0 : Type := List Diii × Int × Int × Int
def chase_behind_S0 (v : chase_behind_Y0) : St := ⟨[(3, .ptr 0 0), (4, .ptr 1 0), (5, .ptr 2 0)], [.cells [.fz Riii v.1], .cells [.int .i64 v.2.1], .cells [.int .i64 v.2.2.1, .int .i64 v.2.2.2]]⟩
def chase_behind_r0 (C : chase_behind_C) (v : chase_behind_Y0i) : Dt chase_behind_Y0 := (Dt.ret (v.1, v.2.1, v.2.2.1, v.2.2.2))
theorem chase_behind_g0 (C : chase_behind_C) (v : chase_behind_Y0i) : treg tysT (orcW (chase_behind_1_wsp C.2.1) (orcSt 45 46 Riiii Ri C.2.2.1 (orc (chase_behind_tab C)))) 39 (regO (bodyOf f29) 0) false [(3, (.box [.val Riii])), (4, .any), (5, .any)] (chase_behind_S0i v) some = (chase_behind_r0 C v).eval fun y => some (chase_behind_S0 y) := by kernel_rfl
abbrev chase_behind_Y1 : Type := List Diii × Int × Int × Int × Int × Int × Int
def chase_behind_S1 (v : chase_behind_Y1) : St := ⟨[(3, .ptr 0 0), (4, .ptr 1 0), (5, .ptr 2 0), (7, .ptr 3 0)], [.cells [.fz Riii v.1], .cells [.int .i64 v.2.1], .cells [.int .i64 v.2.2.1, .int .i64 v.2.2.2.1], .cells [.int .i64 v.2.2.2.2.1, .int .i64 v.2.2.2.2.2.1, .int .i64 v.2.2.2.2.2.2]]⟩
def chase_behind_r1 (C : chase_behind_C) (v : chase_behind_Y0) : Dt chase_behind_Y1 := (Dt.bnd (C.1 ((v.1, ()), (v.2.1, ()), ())) fun r1 => (Dt.ret (v.1, v.2.1, v.2.2.1, v.2.2.2, r1.1, r1.2.1, r1.2.2.1)))
theorem chase_behind_g1 (C : chase_behind_C) (v : chase_behind_Y0) : treg tysT (orcW (chase_behind_1_wsp C.2.1) (orcSt 45 46 Riiii Ri C.2.2.1 (orc (chase_behind_tab C)))) 39 (regO (bodyOf f29) 1) false [(3, (.box [.val Riii])), (4, .any), (5, .any), (7, .any)] (chase_behind_S0 v) some = (chase_behind_r1 C v).eval fun y => some (chase_behind_S1 y) := by kernel_rfl
abbrev chase_behind_Y2 : Type := List Diii × Int × Int × Int × Int × Int × Int × List Diiii
def chase_behind_S2 (v : chase_behind_Y2) : St := ⟨[(3, .ptr 0 0), (4, .ptr 1 0), (5, .ptr 2 0), (7, .ptr 3 0), (9, .ptr 4 0)], [.cells [.fz Riii v.1], .cells [.int .i64 v.2.1], .cells [.int .i64 v.2.2.1, .int .i64 v.2.2.2.1], .cells [.int .i64 v.2.2.2.2.1, .int .i64 v.2.2.2.2.2.1, .int .i64 v.2.2.2.2.2.2.1], .cells [.rs 5], .rows Riiii v.2.2.2.2.2.2.2]⟩
def chase_behind_r2 (C : chase_behind_C) (v : chase_behind_Y1) : Dt chase_behind_Y2 := (Dt.ret (v.1, v.2.1, v.2.2.1, v.2.2.2.1, v.2.2.2.2.1, v.2.2.2.2.2.1, v.2.2.2.2.2.2, ([] : List Diiii)))
theorem chase_behind_g2 (C : chase_behind_C) (v : chase_behind_Y1) : treg tysT (orcW (chase_behind_1_wsp C.2.1) (orcSt 45 46 Riiii Ri C.2.2.1 (orc (chase_behind_tab C)))) 39 (regO (bodyOf f29) 2) false [(3, (.box [.val Riii])), (4, .any), (5, .any), (7, .any), (9, (.box [.own Riiii]))] (chase_behind_S1 v) some = (chase_behind_r2 C v).eval fun y => some (chase_behind_S2 y) := by kernel_rfl
abbrev chase_behind_Y3 : Type := List Diii × Int × List Diiii × Int × Int × Int × Int × Int
def chase_behind_S3 (v : chase_behind_Y3) : St := ⟨[(3, .ptr 0 0), (4, .ptr 1 0), (9, .ptr 2 0), (10, .fn 44 [.ptr 4 0, .ptr 5 0, .ptr 2 0, .ptr 1 0])], [.cells [.fz Riii v.1], .cells [.int .i64 v.2.1], .cells [.rs 3], .rows Riiii v.2.2.1, .cells [.int .i64 v.2.2.2.1, .int .i64 v.2.2.2.2.1, .int .i64 v.2.2.2.2.2.1], .cells [.int .i64 v.2.2.2.2.2.2.1, .int .i64 v.2.2.2.2.2.2.2]]⟩
def chase_behind_r3 (C : chase_behind_C) (v : chase_behind_Y2) : Dt chase_behind_Y3 := (Dt.ret (v.1, v.2.1, v.2.2.2.2.2.2.2, v.2.2.2.2.1, v.2.2.2.2.2.1, v.2.2.2.2.2.2.1, v.2.2.1, v.2.2.2.1))
theorem chase_behind_g3 (C : chase_behind_C) (v : chase_behind_Y2) : treg tysT (orcW (chase_behind_1_wsp C.2.1) (orcSt 45 46 Riiii Ri C.2.2.1 (orc (chase_behind_tab C)))) 39 (regO (bodyOf f29) 3) false [(3, (.box [.val Riii])), (4, .any), (9, (.box [.own Riiii])), (10, .any)] (chase_behind_S2 v) some = (chase_behind_r3 C v).eval fun y => some (chase_behind_S3 y) := by kernel_rfl
abbrev chase_behind_Y4 : Type := List Diii × Int × Int × Int × List Diiii × Int × Int × Int × Int × Int
def chase_behind_S4 (v : chase_behind_Y4) : St := ⟨[(4, .ptr 0 0), (9, .ptr 1 0), (10, .fn 44 [.ptr 3 0, .ptr 4 0, .ptr 1 0, .ptr 0 0]), (21, .fz Riii v.1), (22, .int .i64 v.2.1), (23, .int .i64 v.2.2.1)], [.cells [.int .i64 v.2.2.2.1], .cells [.rs 2], .rows Riiii v.2.2.2.2.1, .cells [.int .i64 v.2.2.2.2.2.1, .int .i64 v.2.2.2.2.2.2.1, .int .i64 v.2.2.2.2.2.2.2.1], .cells [.int .i64 v.2.2.2.2.2.2.2.2.1, .int .i64 v.2.2.2.2.2.2.2.2.2]]⟩
def chase_behind_r4 (C : chase_behind_C) (v : chase_behind_Y3) : Dt chase_behind_Y4 := (Dt.ret (v.1, (List.length v.1 : Int), (0:Int), v.2.1, v.2.2.1, v.2.2.2.1, v.2.2.2.2.1, v.2.2.2.2.2.1, v.2.2.2.2.2.2.1, v.2.2.2.2.2.2.2))
theorem chase_behind_g4 (C : chase_behind_C) (v : chase_behind_Y3) : treg tysT (orcW (chase_behind_1_wsp C.2.1) (orcSt 45 46 Riiii Ri C.2.2.1 (orc (chase_behind_tab C)))) 39 (regO (bodyOf f29) 4) false [(4, .any), (9, (.box [.own Riiii])), (10, .any), (21, (.val Riii)), (22, .any), (23, .any)] (chase_behind_S3 v) some = (chase_behind_r4 C v).eval fun y => some (chase_behind_S4 y) := by kernel_rfl
abbrev chase_behind_Y5 : Type := List Diii × Int × Int × Bool × Int × List Diiii × Int × Int × Int × Int × Int
def chase_behind_S5 (v : chase_behind_Y5) : St := ⟨[(4, .ptr 0 0), (9, .ptr 1 0), (10, .fn 44 [.ptr 3 0, .ptr 4 0, .ptr 1 0, .ptr 0 0]), (21, .fz Riii v.1), (22, .int .i64 v.2.1), (23, .int .i64 v.2.2.1), (24, .bool v.2.2.2.1)], [.cells [.int .i64 v.2.2.2.2.1], .cells [.rs 2], .rows Riiii v.2.2.2.2.2.1, .cells [.int .i64 v.2.2.2.2.2.2.1, .int .i64 v.2.2.2.2.2.2.2.1, .int .i64 v.2.2.2.2.2.2.2.2.1], .cells [.int .i64 v.2.2.2.2.2.2.2.2.2.1, .int .i64 v.2.2.2.2.2.2.2.2.2.2]]⟩
def chase_behind_r5 (C : chase_behind_C) (v : chase_behind_Y4) : Dt chase_behind_Y5 := (Dt.ret (v.1, v.2.1, v.2.2.1, (decide (v.2.2.1 < v.2.1)), v.2.2.2.1, v.2.2.2.2.1, v.2.2.2.2.2.1, v.2.2.2.2.2.2.1, v.2.2.2.2.2.2.2.1, v.2.2.2.2.2.2.2.2.1, v.2.2.2.2.2.2.2.2.2))
theorem chase_behind_g5 (C : chase_behind_C) (v : chase_behind_Y4) : treg tysT (orcW (chase_behind_1_wsp C.2.1) (orcSt 45 46 Riiii Ri C.2.2.1 (orc (chase_behind_tab C)))) 39 (regO (bodyOf f29) 5) false [(4, .any), (9, (.box [.own Riiii])), (10, .any), (21, (.val Riii)), (22, .any), (23, .any), (24, .any)] (chase_behind_S4 v) some = (chase_behind_r5 C v).eval fun y => some (chase_behind_S5 y) := by kernel_rfl
abbrev chase_behind_Y6 : Type := List Diii × Int × Int × Int × List Diiii × Int × Int × Int × Int × Int × Int × Int × Int
def chase_behind_S6 (v : chase_behind_Y6) : St := ⟨[(4, .ptr 0 0), (9, .ptr 1 0), (10, .fn 44 [.ptr 3 0, .ptr 4 0, .ptr 1 0, .ptr 0 0]), (12, .ptr 5 0), (21, .fz Riii v.1), (22, .int .i64 v.2.1), (23, .int .i64 v.2.2.1)], [.cells [.int .i64 v.2.2.2.1], .cells [.rs 2], .rows Riiii v.2.2.2.2.1, .cells [.int .i64 v.2.2.2.2.2.1, .int .i64 v.2.2.2.2.2.2.1, .int .i64 v.2.2.2.2.2.2.2.1], .cells [.int .i64 v.2.2.2.2.2.2.2.2.1, .int .i64 v.2.2.2.2.2.2.2.2.2.1], .cells [.int .i64 v.2.2.2.2.2.2.2.2.2.2.1, .int .i64 v.2.2.2.2.2.2.2.2.2.2.2.1, .int .i64 v.2.2.2.2.2.2.2.2.2.2.2.2]]⟩
def chase_behind_r6 (C : chase_behind_C) (v : chase_behind_Y5) : Dt chase_behind_Y6 := (Dt.ite (inB v.2.2.1 (List.length v.1)) (Dt.ret (v.1, v.2.1, v.2.2.1, v.2.2.2.2.1, v.2.2.2.2.2.1, v.2.2.2.2.2.2.1, v.2.2.2.2.2.2.2.1, v.2.2.2.2.2.2.2.2.1, v.2.2.2.2.2.2.2.2.2.1, v.2.2.2.2.2.2.2.2.2.2, (elt ziii v.1 (v.2.2.1).toNat).1, (elt ziii v.1 (v.2.2.1).toNat).2.1, (elt ziii v.1 (v.2.2.1).toNat).2.2.1)) Dt.fail)
theorem chase_behind_g6 (C : chase_behind_C) (v : chase_behind_Y5) : treg tysT (orcW (chase_behind_1_wsp C.2.1) (orcSt 45 46 Riiii Ri C.2.2.1 (orc (chase_behind_tab C)))) 39 (regO (bodyOf f29) 6) false [(4, .any), (9, (.box [.own Riiii])), (10, .any), (12, .any), (21, (.val Riii)), (22, .any), (23, .any)] (chase_behind_S5 v) some = (chase_behind_r6 C v).eval fun y => some (chase_behind_S6 y) := by kernel_rfl
abbrev chase_behind_Y7 : Type := List Diii × Int × Int × Bool × Int × List Diiii × Int × Int × Int × Int × Int × Int × Int × Int
def chase_behind_S7 (v : chase_behind_Y7) : St := ⟨[(4, .ptr 0 0), (9, .ptr 1 0), (10, .fn 44 [.ptr 3 0, .ptr 4 0, .ptr 1 0, .ptr 0 0]), (12, .ptr 5 0), (21, .fz Riii v.1), (22, .int .i64 v.2.1), (23, .int .i64 v.2.2.1), (30, .bool v.2.2.2.1)], [.cells [.int .i64 v.2.2.2.2.1], .cells [.rs 2], .rows Riiii v.2.2.2.2.2.1, .cells [.int .i64 v.2.2.2.2.2.2.1, .int .i64 v.2.2.2.2.2.2.2.1, .int .i64 v.2.2.2.2.2.2.2.2.1], .cells [.int .i64 v.2.2.2.2.2.2.2.2.2.1, .int .i64 v.2.2.2.2.2.2.2.2.2.2.1], .cells [.int .i64 v.2.2.2.2.2.2.2.2.2.2.2.1, .int .i64 v.2.2.2.2.2.2.2.2.2.2.2.2.1, .int .i64 v.2.2.2.2.2.2.2.2.2.2.2.2.2]]⟩
def chase_behind_r7 (C : chase_behind_C) (v : chase_behind_Y6) : Dt chase_behind_Y7 := (Dt.ret (v.1, v.2.1, v.2.2.1, (v.2.2.2.2.2.2.2.2.2.2.1 != v.2.2.2.1), v.2.2.2.1, v.2.2.2.2.1, v.2.2.2.2.2.1, v.2.2.2.2.2.2.1, v.2.2.2.2.2.2.2.1, v.2.2.2.2.2.2.2.2.1, v.2.2.2.2.2.2.2.2.2.1, v.2.2.2.2.2.2.2.2.2.2.1, v.2.2.2.2.2.2.2.2.2.2.2.1, v.2.2.2.2.2.2.2.2.2.2.2.2))
theorem chase_behind_g7 (C : chase_behind_C) (v : chase_behind_Y6) : treg tysT (orcW (chase_behind_1_wsp C.2.1) (orcSt 45 46 Riiii Ri C.2.2.1 (orc (chase_behind_tab C)))) 39 (regO (bodyOf f29) 7) false [(4, .any), (9, (.box [.own Riiii])), (10, .any), (12, .any), (21, (.val Riii)), (22, .any), (23, .any), (30, .any)] (chase_behind_S6 v) some = (chase_behind_r7 C v).eval fun y => some (chase_behind_S7 y) := by kernel_rfl
def chase_behind_r8 (C : chase_behind_C) (v : chase_behind_Y7) : Dt chase_behind_Y4 := (Dt.bnd (C.2.1 (((v.2.2.2.2.2.2.2.2.2.2.2.1, v.2.2.2.2.2.2.2.2.2.2.2.2.1, v.2.2.2.2.2.2.2.2.2.2.2.2.2, ()), (v.2.2.2.2.2.2.1, v.2.2.2.2.2.2.2.1, v.2.2.2.2.2.2.2.2.1, ()), (v.2.2.2.2.2.2.2.2.2.1, v.2.2.2.2.2.2.2.2.2.2.1, ()), ()), ((v.2.2.2.2.1, ()), ()), v.2.2.2.2.2.1)) fun r1 => (Dt.ret (v.1, v.2.1, v.2.2.1, v.2.2.2.2.1, r1, v.2.2.2.2.2.2.1, v.2.2.2.2.2.2.2.1, v.2.2.2.2.2.2.2.2.1, v.2.2.2.2.2.2.2.2.2.1, v.2.2.2.2.2.2.2.2.2.2.1)))
theorem chase_behind_g8 (C : chase_behind_C) (v : chase_behind_Y7) : treg tysT (orcW (chase_behind_1_wsp C.2.1) (orcSt 45 46 Riiii Ri C.2.2.1 (orc (chase_behind_tab C)))) 39 (regO (bodyOf f29) 8) false [(4, .any), (9, (.box [.own Riiii])), (10, .any), (21, (.val Riii)), (22, .any), (23, .any)] (chase_behind_S7 v) some = (chase_behind_r8 C v).eval fun y => some (chase_behind_S4 y) := by kernel_rfl
def chase_behind_r9 (C : chase_behind_C) (v : chase_behind_Y4) : Dt chase_behind_Y4 := (Dt.ret (v.1, v.2.1, (IntKind.wrap .i64 (v.2.2.1 + (1:Int))), v.2.2.2.1, v.2.2.2.2.1, v.2.2.2.2.2.1, v.2.2.2.2.2.2.1, v.2.2.2.2.2.2.2.1, v.2.2.2.2.2.2.2.2.1, v.2.2.2.2.2.2.2.2.2))
theorem chase_behind_g9 (C : chase_behind_C) (v : chase_behind_Y4) : treg tysT (orcW (chase_behind_1_wsp C.2.1) (orcSt 45 46 Riiii Ri C.2.2.1 (orc (chase_behind_tab C)))) 39 (regO (bodyOf f29) 9) false [(4, .any), (9, (.box [.own Riiii])), (10, .any), (21, (.val Riii)), (22, .any), (23, .any)] (chase_behind_S4 v) some = (chase_behind_r9 C v).eval fun y => some (chase_behind_S4 y) := by kernel_rfl
def chase_behind_J2  (d : Nat) (self1 : (List Diii × Int × Int × Int × List Diiii × Int × Int × Int × Int × Int) → Option chase_behind_R) (z : List Diii × Int × Int × Int × List Diiii × Int × Int × Int × Int × Int) : Option (chase_behind_R) :=
  (chase_behind_r9 (chase_behind_K d) z).eval fun y9 =>
  self1 y9
abbrev chase_behind_Y10 : Type := List Diiii
def chase_behind_S10 (v : chase_behind_Y10) : St := ⟨[(9, .ptr 0 0)], [.cells [.rs 1], .rows Riiii v]⟩
def chase_behind_r10 (C : chase_behind_C) (v : chase_behind_Y5) : Dt chase_behind_Y10 := (Dt.bnd (stabV (τ := Riiii) (fun p => C.2.2.1 (p.1, p.2.1, (v.2.2.2.2.1, ()), ())) v.2.2.2.2.2.1) fun r1 => (Dt.ret r1))
theorem chase_behind_g10 (C : chase_behind_C) (v : chase_behind_Y5) : treg tysT (orcW (chase_behind_1_wsp C.2.1) (orcSt 45 46 Riiii Ri C.2.2.1 (orc (chase_behind_tab C)))) 39 (regO (bodyOf f29) 10) false [(9, (.box [.own Riiii]))] (chase_behind_S5 v) some = (chase_behind_r10 C v).eval fun y => some (chase_behind_S10 y) := by kernel_rfl
abbrev chase_behind_Y11 : Type := List Diiii
def chase_behind_S11 (v : chase_behind_Y11) : St := ⟨[(6, .rs 0)], [.rows Riiii v]⟩
def chase_behind_r11 (C : chase_behind_C) (v : chase_behind_Y10) : Dt chase_behind_Y11 := (Dt.ret v)
theorem chase_behind_g11 (C : chase_behind_C) (v : chase_behind_Y10) : treg tysT (orcW (chase_behind_1_wsp C.2.1) (orcSt 45 46 Riiii Ri C.2.2.1 (orc (chase_behind_tab C)))) 39 (regO (bodyOf f29) 11) false [(6, (.own Riiii))] (chase_behind_S10 v) some = (chase_behind_r11 C v).eval fun y => some (chase_behind_S11 y) := by kernel_rfl
def chase_behind_L1 (d : Nat) (self1 : (List Diii × Int × Int × Int × List Diiii × Int × Int × Int × Int × Int) → Option chase_behind_R) (x1 : List Diii × Int × Int × Int × List Diiii × Int × Int × Int × Int × Int) : Option chase_behind_R :=
  (chase_behind_r5 (chase_behind_K d) x1).eval fun y5 =>
  bif y5.2.2.2.1 then ((chase_behind_r6 (chase_behind_K d) y5).eval fun y6 =>
  (chase_behind_r7 (chase_behind_K d) y6).eval fun y7 =>
  bif y7.2.2.2.1 then ((chase_behind_r8 (chase_behind_K d) y7).eval fun y8 =>
  chase_behind_J2 d self1 y8) else (chase_behind_J2 d self1 (y7.1, y7.2.1, y7.2.2.1, y7.2.2.2.2.1, y7.2.2.2.2.2.1, y7.2.2.2.2.2.2.1, y7.2.2.2.2.2.2.2.1, y7.2.2.2.2.2.2.2.2.1, y7.2.2.2.2.2.2.2.2.2.1, y7.2.2.2.2.2.2.2.2.2.2.1))) else ((chase_behind_r10 (chase_behind_K d) y5).eval fun y10 =>
  (chase_behind_r11 (chase_behind_K d) y10).eval fun y11 =>
  some y11)
def F_chase_behind (d : Nat) (x : chase_behind_X) : Option chase_behind_R :=
  (chase_behind_r0 (chase_behind_K d) (x.1.1, x.2.1.1, x.2.2.1.1, x.2.2.1.2.1)).eval fun y0 =>
  (chase_behind_r1 (chase_behind_K d) y0).eval fun y1 =>
  (chase_behind_r2 (chase_behind_K d) y1).eval fun y2 =>
  (chase_behind_r3 (chase_behind_K d) y2).eval fun y3 =>
  (chase_behind_r4 (chase_behind_K d) y3).eval fun y4 =>
  iter (chase_behind_L1 d ) d y4
theorem chase_behind_cok (d : Nat) : COK prog (chase_behind_sp (F_chase_behind d)) := by
  have hm : prog.follows .mixedOrders = true := mixed
  have hT := tys
  have hC0 : OrcOK prog (orc (chase_behind_tab (chase_behind_K d))) := orc_ok (by
    intro S hS
    simp only [chase_behind_tab, List.mem_cons, List.not_mem_nil, or_false] at hS
    rcases hS with rfl | rfl
    · exact field_Find_cok d
    · exact chase_behind_2_cok d)
  have hC : OrcOK prog (orcW (chase_behind_1_wsp (chase_behind_K d).2.1) (orcSt 45 46 Riiii Ri (chase_behind_K d).2.2.1 (orc (chase_behind_tab (chase_behind_K d))))) := (orcW_ok (chase_behind_1_cokw d) rfl (stab_api_Meeting_ok (chase_behind_2_cok d) hC0))
  refine cok_of (c := bodyOf f29) (fn := f29) hT (by kernel_rfl) (by kernel_rfl) (by decide) fun x r h w0 φ0 Q hend => ?_
  replace h : F_chase_behind d x = some r := h
  unfold F_chase_behind at h
  show Run prog w0 φ0 39 (bodyOf f29) ⟨[(0, .agg [.fz Riii x.1.1]), (1, .int .i64 x.2.1.1), (2, .agg [.int .i64 x.2.2.1.1, .int .i64 x.2.2.1.2.1])], []⟩ Q
  refine run_seq ?_
  refine run_reg hm hT hC (chase_behind_g0 (chase_behind_K d) (x.1.1, x.2.1.1, x.2.2.1.1, x.2.2.1.2.1)) h ?_
  intro y0 h
  refine cn_then ?_
  refine run_seq ?_
  refine run_reg hm hT hC (chase_behind_g1 (chase_behind_K d) y0) h ?_
  intro y1 h
  refine cn_then ?_
  refine run_seq ?_
  refine run_reg hm hT hC (chase_behind_g2 (chase_behind_K d) y1) h ?_
  intro y2 h
  refine cn_then ?_
  refine run_seq ?_
  refine run_reg hm hT hC (chase_behind_g3 (chase_behind_K d) y2) h ?_
  intro y3 h
  refine cn_then ?_
  refine run_seq ?_
  refine run_seq ?_
  refine run_reg hm hT hC (chase_behind_g4 (chase_behind_K d) y3) h ?_
  intro y4 h
  refine cn_then ?_
  refine run_block ?_
  refine run_loop (G := iter (chase_behind_L1 d )) (S := (fun x1 => ⟨[(4, .ptr 0 0), (9, .ptr 1 0), (10, .fn 44 [.ptr 3 0, .ptr 4 0, .ptr 1 0, .ptr 0 0]), (21, .fz Riii x1.1), (22, .int .i64 x1.2.1), (23, .int .i64 x1.2.2.1)], [.cells [.int .i64 x1.2.2.2.1], .cells [.rs 2], .rows Riiii x1.2.2.2.2.1, .cells [.int .i64 x1.2.2.2.2.2.1, .int .i64 x1.2.2.2.2.2.2.1, .int .i64 x1.2.2.2.2.2.2.2.1], .cells [.int .i64 x1.2.2.2.2.2.2.2.2.1, .int .i64 x1.2.2.2.2.2.2.2.2.2]]⟩ : List Diii × Int × Int × Int × List Diiii × Int × Int × Int × Int × Int → St)) (fun _ => rfl) ?_ d _ h
  intro n1 x1 h K1 hn1
  replace h : chase_behind_L1 d  (iter (chase_behind_L1 d ) n1) x1 = some r := h
  generalize iter (chase_behind_L1 d ) n1 = self1 at h hn1
  unfold chase_behind_L1 at h
  refine run_seq ?_
  refine run_reg hm hT hC (chase_behind_g5 (chase_behind_K d) x1) h ?_
  intro y5 h
  refine cn_then ?_
  refine run_seq ?_
  refine run_cond (v := y5.2.2.2.1) (by kernel_rfl) h ?_ ?_
  ·
    intro h
    refine run_skip ?_
    refine cn_then ?_
    refine run_join (r := r) (F := chase_behind_J2 d self1) (S := (fun z => ⟨[(4, .ptr 0 0), (9, .ptr 1 0), (10, .fn 44 [.ptr 3 0, .ptr 4 0, .ptr 1 0, .ptr 0 0]), (21, .fz Riii z.1), (22, .int .i64 z.2.1), (23, .int .i64 z.2.2.1)], [.cells [.int .i64 z.2.2.2.1], .cells [.rs 2], .rows Riiii z.2.2.2.2.1, .cells [.int .i64 z.2.2.2.2.2.1, .int .i64 z.2.2.2.2.2.2.1, .int .i64 z.2.2.2.2.2.2.2.1], .cells [.int .i64 z.2.2.2.2.2.2.2.2.1, .int .i64 z.2.2.2.2.2.2.2.2.2]]⟩ : List Diii × Int × Int × Int × List Diiii × Int × Int × Int × Int × Int → St)) ?_ ?_
    ·
      intro z h
      unfold chase_behind_J2 at h
      refine run_reg hm hT hC (chase_behind_g9 (chase_behind_K d) z) h ?_
      intro y9 h
      exact hn1 _ h
    intro hj2
    refine run_block ?_
    refine run_seq ?_
    refine run_reg hm hT hC (chase_behind_g6 (chase_behind_K d) y5) h ?_
    intro y6 h
    refine cn_then ?_
    refine run_seq ?_
    refine run_reg hm hT hC (chase_behind_g7 (chase_behind_K d) y6) h ?_
    intro y7 h
    refine cn_then ?_
    refine run_cond (v := y7.2.2.2.1) (by kernel_rfl) h ?_ ?_
    ·
      intro h
      refine run_reg hm hT hC (chase_behind_g8 (chase_behind_K d) y7) h ?_
      intro y8 h
      refine cn_blk ?_
      exact hj2 _ h
    ·
      intro h
      refine run_skip ?_
      refine cn_blk ?_
      refine cn_num (s := ⟨[(4, .ptr 0 0), (9, .ptr 1 0), (10, .fn 44 [.ptr 3 0, .ptr 4 0, .ptr 1 0, .ptr 0 0]), (21, .fz Riii y7.1), (22, .int .i64 y7.2.1), (23, .int .i64 y7.2.2.1)], [.cells [.int .i64 y7.2.2.2.2.1], .cells [.rs 2], .rows Riiii y7.2.2.2.2.2.1, .cells [.int .i64 y7.2.2.2.2.2.2.1, .int .i64 y7.2.2.2.2.2.2.2.1, .int .i64 y7.2.2.2.2.2.2.2.2.1], .cells [.int .i64 y7.2.2.2.2.2.2.2.2.2.1, .int .i64 y7.2.2.2.2.2.2.2.2.2.2.1]]⟩) [12, 30] (by kernel_rfl) ?_
      exact hj2 _ h
  ·
    intro h
    refine run_exit ?_
    refine cn_then_exit ?_
    refine cn_then_exit ?_
    refine cn_blk_eq ?_
    refine cn_then ?_
    refine run_seq ?_
    refine run_reg hm hT hC (chase_behind_g10 (chase_behind_K d) y5) h ?_
    intro y10 h
    refine cn_then ?_
    refine run_seq ?_
    refine run_reg hm hT hC (chase_behind_g11 (chase_behind_K d) y10) h ?_
    intro y11 h
    refine cn_then ?_
    refine run_ret ?_
    cases h
    exact (hend _ (by kernel_rfl)).2
abbrev chase_Plan_ps : List Pk := [.row RLiiiE true, .row Ri false, .row Rii true, .row Ri false]
abbrev chase_Plan_X : Type := DLiiiE × Di × Dii × Di × Unit
abbrev chase_Plan_R : Type := List Diiii × Int
def chase_Plan_enc (r : chase_Plan_R) : LV × List Ob := (.tup [.fz Riiii r.1, .int .i64 r.2], [])
def chase_Plan_sp (F : chase_Plan_X → Option chase_Plan_R) : Go.Tx.Spec := ⟨10, chase_Plan_ps, chase_Plan_R, F, chase_Plan_enc⟩
abbrev chase_Plan_C : Type := (chase_check_X → Option chase_check_R) × (chase_behind_X → Option chase_behind_R) × Unit
def chase_Plan_K (d : Nat) : chase_Plan_C := (F_chase_check d, F_chase_behind d, ())
def chase_Plan_tab (C : chase_Plan_C) : List Go.Tx.Spec := [chase_check_sp C.1, chase_behind_sp C.2.1]
abbrev chase_Plan_Y0i : Type := List Diii × Int × Int × Int × Int
def chase_Plan_S0i (v : chase_Plan_Y0i) : St := ⟨[(0, .agg [.fz Riii v.1]), (1, .int .i64 v.2.1), (2, .agg [.int .i64 v.2.2.1, .int .i64 v.2.2.2.1]), (3, .int .i64 v.2.2.2.2)], []⟩
abbrev chase_Plan_Y0 : Type := Int × Int × List Diii × Int × Int
def chase_Plan_S0 (v : chase_Plan_Y0) : St := ⟨[(1, .int .i64 v.1), (3, .int .i64 v.2.1), (4, .ptr 0 0), (6, .ptr 1 0)], [.cells [.fz Riii v.2.2.1], .cells [.int .i64 v.2.2.2.1, .int .i64 v.2.2.2.2]]⟩
def chase_Plan_r0 (C : chase_Plan_C) (v : chase_Plan_Y0i) : Dt chase_Plan_Y0 := (Dt.ret (v.2.1, v.2.2.2.2, v.1, v.2.2.1, v.2.2.2.1))
theorem chase_Plan_g0 (C : chase_Plan_C) (v : chase_Plan_Y0i) : treg tysT (orc (chase_Plan_tab C)) 30 (regO (bodyOf f10) 0) false [(1, .any), (3, .any), (4, (.box [.val Riii])), (6, .any)] (chase_Plan_S0i v) some = (chase_Plan_r0 C v).eval fun y => some (chase_Plan_S0 y) := by kernel_rfl
abbrev chase_Plan_Y1 : Type := Int × Int × Int × List Diii × Int × Int
def chase_Plan_S1 (v : chase_Plan_Y1) : St := ⟨[(1, .int .i64 v.1), (3, .int .i64 v.2.1), (4, .ptr 0 0), (6, .ptr 1 0), (10, .int .i64 v.2.2.1)], [.cells [.fz Riii v.2.2.2.1], .cells [.int .i64 v.2.2.2.2.1, .int .i64 v.2.2.2.2.2]]⟩
def chase_Plan_r1 (C : chase_Plan_C) (v : chase_Plan_Y0) : Dt chase_Plan_Y1 := (Dt.bnd (C.1 ((v.2.2.1, ()), (v.1, ()), (v.2.2.2.1, v.2.2.2.2, ()), (v.2.1, ()), ())) fun r1 => (Dt.ret (v.1, v.2.1, r1, v.2.2.1, v.2.2.2.1, v.2.2.2.2)))
theorem chase_Plan_g1 (C : chase_Plan_C) (v : chase_Plan_Y0) : treg tysT (orc (chase_Plan_tab C)) 30 (regO (bodyOf f10) 1) false [(1, .any), (3, .any), (4, (.box [.val Riii])), (6, .any), (10, .any)] (chase_Plan_S0 v) some = (chase_Plan_r1 C v).eval fun y => some (chase_Plan_S1 y) := by kernel_rfl
abbrev chase_Plan_Y2 : Type := Int × Int × Int × Bool × List Diii × Int × Int
def chase_Plan_S2 (v : chase_Plan_Y2) : St := ⟨[(1, .int .i64 v.1), (3, .int .i64 v.2.1), (4, .ptr 0 0), (6, .ptr 1 0), (10, .int .i64 v.2.2.1), (18, .bool v.2.2.2.1)], [.cells [.fz Riii v.2.2.2.2.1], .cells [.int .i64 v.2.2.2.2.2.1, .int .i64 v.2.2.2.2.2.2]]⟩
def chase_Plan_r2 (C : chase_Plan_C) (v : chase_Plan_Y1) : Dt chase_Plan_Y2 := (Dt.ret (v.1, v.2.1, v.2.2.1, (v.2.2.1 != (0:Int)), v.2.2.2.1, v.2.2.2.2.1, v.2.2.2.2.2))
theorem chase_Plan_g2 (C : chase_Plan_C) (v : chase_Plan_Y1) : treg tysT (orc (chase_Plan_tab C)) 30 (regO (bodyOf f10) 2) false [(1, .any), (3, .any), (4, (.box [.val Riii])), (6, .any), (10, .any), (18, .any)] (chase_Plan_S1 v) some = (chase_Plan_r2 C v).eval fun y => some (chase_Plan_S2 y) := by kernel_rfl
abbrev chase_Plan_Y3 : Type := List Diiii × Int
def chase_Plan_S3 (v : chase_Plan_Y3) : St := ⟨[(8, .fz Riiii v.1), (9, .int .i64 v.2)], []⟩
def chase_Plan_r3 (C : chase_Plan_C) (v : chase_Plan_Y2) : Dt chase_Plan_Y3 := (Dt.ret (([] : List Diiii), v.2.2.1))
theorem chase_Plan_g3 (C : chase_Plan_C) (v : chase_Plan_Y2) : treg tysT (orc (chase_Plan_tab C)) 30 (regO (bodyOf f10) 3) false [(8, (.val Riiii)), (9, .any)] (chase_Plan_S2 v) some = (chase_Plan_r3 C v).eval fun y => some (chase_Plan_S3 y) := by kernel_rfl
abbrev chase_Plan_Y4 : Type := Int × List Diiii
def chase_Plan_S4 (v : chase_Plan_Y4) : St := ⟨[(3, .int .i64 v.1), (11, .rs 0)], [.rows Riiii v.2]⟩
def chase_Plan_r4 (C : chase_Plan_C) (v : chase_Plan_Y2) : Dt chase_Plan_Y4 := (Dt.bnd (C.2.1 ((v.2.2.2.2.1, ()), (v.1, ()), (v.2.2.2.2.2.1, v.2.2.2.2.2.2, ()), ())) fun r1 => (Dt.ret (v.2.1, r1)))
theorem chase_Plan_g4 (C : chase_Plan_C) (v : chase_Plan_Y2) : treg tysT (orc (chase_Plan_tab C)) 30 (regO (bodyOf f10) 4) false [(3, .any), (11, (.own Riiii))] (chase_Plan_S2 v) some = (chase_Plan_r4 C v).eval fun y => some (chase_Plan_S4 y) := by kernel_rfl
def chase_Plan_r5 (C : chase_Plan_C) (v : chase_Plan_Y4) : Dt chase_Plan_Y3 := (Dt.ite (decide (0 ≤ (tmin v.1 (List.length v.2 : Int))) && decide ((tmin v.1 (List.length v.2 : Int)) ≤ (List.length v.2 : Int))) (Dt.ret ((List.take ((tmin v.1 (List.length v.2 : Int))).toNat v.2), (0:Int))) Dt.fail)
theorem chase_Plan_g5 (C : chase_Plan_C) (v : chase_Plan_Y4) : treg tysT (orc (chase_Plan_tab C)) 30 (regO (bodyOf f10) 5) false [(8, (.val Riiii)), (9, .any)] (chase_Plan_S4 v) some = (chase_Plan_r5 C v).eval fun y => some (chase_Plan_S3 y) := by kernel_rfl
def F_chase_Plan (d : Nat) (x : chase_Plan_X) : Option chase_Plan_R :=
  (chase_Plan_r0 (chase_Plan_K d) (x.1.1, x.2.1.1, x.2.2.1.1, x.2.2.1.2.1, x.2.2.2.1.1)).eval fun y0 =>
  (chase_Plan_r1 (chase_Plan_K d) y0).eval fun y1 =>
  (chase_Plan_r2 (chase_Plan_K d) y1).eval fun y2 =>
  bif y2.2.2.2.1 then ((chase_Plan_r3 (chase_Plan_K d) y2).eval fun y3 =>
  some y3) else ((chase_Plan_r4 (chase_Plan_K d) y2).eval fun y4 =>
  (chase_Plan_r5 (chase_Plan_K d) y4).eval fun y5 =>
  some y5)
theorem chase_Plan_cok (d : Nat) : COK prog (chase_Plan_sp (F_chase_Plan d)) := by
  have hm : prog.follows .mixedOrders = true := mixed
  have hT := tys
  have hC0 : OrcOK prog (orc (chase_Plan_tab (chase_Plan_K d))) := orc_ok (by
    intro S hS
    simp only [chase_Plan_tab, List.mem_cons, List.not_mem_nil, or_false] at hS
    rcases hS with rfl | rfl
    · exact chase_check_cok d
    · exact chase_behind_cok d)
  have hC : OrcOK prog (orc (chase_Plan_tab (chase_Plan_K d))) := hC0
  refine cok_of (c := bodyOf f10) (fn := f10) hT (by kernel_rfl) (by kernel_rfl) (by decide) fun x r h w0 φ0 Q hend => ?_
  replace h : F_chase_Plan d x = some r := h
  unfold F_chase_Plan at h
  show Run prog w0 φ0 30 (bodyOf f10) ⟨[(0, .agg [.fz Riii x.1.1]), (1, .int .i64 x.2.1.1), (2, .agg [.int .i64 x.2.2.1.1, .int .i64 x.2.2.1.2.1]), (3, .int .i64 x.2.2.2.1.1)], []⟩ Q
  refine run_seq ?_
  refine run_reg hm hT hC (chase_Plan_g0 (chase_Plan_K d) (x.1.1, x.2.1.1, x.2.2.1.1, x.2.2.1.2.1, x.2.2.2.1.1)) h ?_
  intro y0 h
  refine cn_then ?_
  refine run_seq ?_
  refine run_seq ?_
  refine run_reg hm hT hC (chase_Plan_g1 (chase_Plan_K d) y0) h ?_
  intro y1 h
  refine cn_then ?_
  refine run_seq ?_
  refine run_reg hm hT hC (chase_Plan_g2 (chase_Plan_K d) y1) h ?_
  intro y2 h
  refine cn_then ?_
  refine run_cond (v := y2.2.2.2.1) (by kernel_rfl) h ?_ ?_
  ·
    intro h
    refine run_seq ?_
    refine run_reg hm hT hC (chase_Plan_g3 (chase_Plan_K d) y2) h ?_
    intro y3 h
    refine cn_then ?_
    refine run_ret ?_
    refine cn_then_ret ?_
    cases h
    exact (hend _ (by kernel_rfl)).2
  ·
    intro h
    refine run_skip ?_
    refine cn_then ?_
    refine run_seq ?_
    refine run_reg hm hT hC (chase_Plan_g4 (chase_Plan_K d) y2) h ?_
    intro y4 h
    refine cn_then ?_
    refine run_seq ?_
    refine run_reg hm hT hC (chase_Plan_g5 (chase_Plan_K d) y4) h ?_
    intro y5 h
    refine cn_then ?_
    refine run_ret ?_
    cases h
    exact (hend _ (by kernel_rfl)).2
abbrev chase_Next_ps : List Pk := [.row RLiiiE true, .row Ri false, .row Rii true]
abbrev chase_Next_X : Type := DLiiiE × Di × Dii × Unit
abbrev chase_Next_R : Type := Int × Int × Int × Int × Int
def chase_Next_enc (r : chase_Next_R) : LV × List Ob := (.tup [.agg [.int .i64 r.1, .int .i64 r.2.1, .int .i64 r.2.2.1, .int .i64 r.2.2.2.1], .int .i64 r.2.2.2.2], [])
def chase_Next_sp (F : chase_Next_X → Option chase_Next_R) : Go.Tx.Spec := ⟨9, chase_Next_ps, chase_Next_R, F, chase_Next_enc⟩
abbrev chase_Next_C : Type := (chase_Plan_X → Option chase_Plan_R) × Unit
def chase_Next_K (d : Nat) : chase_Next_C := (F_chase_Plan d, ())
def chase_Next_tab (C : chase_Next_C) : List Go.Tx.Spec := [chase_Plan_sp C.1]
abbrev chase_Next_Y0i : Type := List Diii × Int × Int × Int
def chase_Next_S0i (v : chase_Next_Y0i) : St := ⟨[(0, .agg [.fz Riii v.1]), (1, .int .i64 v.2.1), (2, .agg [.int .i64 v.2.2.1, .int .i64 v.2.2.2])], []⟩
abbrev chase_Next_Y0 : Type := Int × List Diii × Int × Int × Int × Int × Int × Int
def chase_Next_S0 (v : chase_Next_Y0) : St := ⟨[(1, .int .i64 v.1), (3, .ptr 0 0), (5, .ptr 1 0), (6, .ptr 2 0)], [.cells [.fz Riii v.2.1], .cells [.int .i64 v.2.2.1, .int .i64 v.2.2.2.1], .cells [.int .i64 v.2.2.2.2.1, .int .i64 v.2.2.2.2.2.1, .int .i64 v.2.2.2.2.2.2.1, .int .i64 v.2.2.2.2.2.2.2]]⟩
def chase_Next_r0 (C : chase_Next_C) (v : chase_Next_Y0i) : Dt chase_Next_Y0 := (Dt.ret (v.2.1, v.1, v.2.2.1, v.2.2.2, (0:Int), (0:Int), (0:Int), (0:Int)))
theorem chase_Next_g0 (C : chase_Next_C) (v : chase_Next_Y0i) : treg tysT (orc (chase_Next_tab C)) 30 (regO (bodyOf f9) 0) false [(1, .any), (3, (.box [.val Riii])), (5, .any), (6, .any)] (chase_Next_S0i v) some = (chase_Next_r0 C v).eval fun y => some (chase_Next_S0 y) := by kernel_rfl
abbrev chase_Next_Y1 : Type := List Diiii × Int × Int × Int × Int × Int
def chase_Next_S1 (v : chase_Next_Y1) : St := ⟨[(6, .ptr 0 0), (8, .fz Riiii v.1), (9, .int .i64 v.2.1)], [.cells [.int .i64 v.2.2.1, .int .i64 v.2.2.2.1, .int .i64 v.2.2.2.2.1, .int .i64 v.2.2.2.2.2]]⟩
def chase_Next_r1 (C : chase_Next_C) (v : chase_Next_Y0) : Dt chase_Next_Y1 := (Dt.bnd (C.1 ((v.2.1, ()), (v.1, ()), (v.2.2.1, v.2.2.2.1, ()), ((1:Int), ()), ())) fun r1 => (Dt.ret (r1.1, r1.2, v.2.2.2.2.1, v.2.2.2.2.2.1, v.2.2.2.2.2.2.1, v.2.2.2.2.2.2.2)))
theorem chase_Next_g1 (C : chase_Next_C) (v : chase_Next_Y0) : treg tysT (orc (chase_Next_tab C)) 30 (regO (bodyOf f9) 1) false [(6, .any), (8, (.val Riiii)), (9, .any)] (chase_Next_S0 v) some = (chase_Next_r1 C v).eval fun y => some (chase_Next_S1 y) := by kernel_rfl
abbrev chase_Next_Y2 : Type := List Diiii × Int × Bool × Int × Int × Int × Int
def chase_Next_S2 (v : chase_Next_Y2) : St := ⟨[(6, .ptr 0 0), (8, .fz Riiii v.1), (9, .int .i64 v.2.1), (17, .bool v.2.2.1)], [.cells [.int .i64 v.2.2.2.1, .int .i64 v.2.2.2.2.1, .int .i64 v.2.2.2.2.2.1, .int .i64 v.2.2.2.2.2.2]]⟩
def chase_Next_r2 (C : chase_Next_C) (v : chase_Next_Y1) : Dt chase_Next_Y2 := (Dt.ret (v.1, v.2.1, (v.2.1 != (0:Int)), v.2.2.1, v.2.2.2.1, v.2.2.2.2.1, v.2.2.2.2.2))
theorem chase_Next_g2 (C : chase_Next_C) (v : chase_Next_Y1) : treg tysT (orc (chase_Next_tab C)) 30 (regO (bodyOf f9) 2) false [(6, .any), (8, (.val Riiii)), (9, .any), (17, .any)] (chase_Next_S1 v) some = (chase_Next_r2 C v).eval fun y => some (chase_Next_S2 y) := by kernel_rfl
abbrev chase_Next_Y3 : Type := Int × Int × Int × Int × Int
def chase_Next_S3 (v : chase_Next_Y3) : St := ⟨[(6, .ptr 0 0), (7, .int .i64 v.1)], [.cells [.int .i64 v.2.1, .int .i64 v.2.2.1, .int .i64 v.2.2.2.1, .int .i64 v.2.2.2.2]]⟩
def chase_Next_r3 (C : chase_Next_C) (v : chase_Next_Y2) : Dt chase_Next_Y3 := (Dt.ret (v.2.1, (0:Int), (0:Int), (0:Int), (0:Int)))
theorem chase_Next_g3 (C : chase_Next_C) (v : chase_Next_Y2) : treg tysT (orc (chase_Next_tab C)) 30 (regO (bodyOf f9) 3) false [(6, .any), (7, .any)] (chase_Next_S2 v) some = (chase_Next_r3 C v).eval fun y => some (chase_Next_S3 y) := by kernel_rfl
abbrev chase_Next_Y4 : Type := List Diiii × Bool × Int × Int × Int × Int
def chase_Next_S4 (v : chase_Next_Y4) : St := ⟨[(6, .ptr 0 0), (8, .fz Riiii v.1), (22, .bool v.2.1)], [.cells [.int .i64 v.2.2.1, .int .i64 v.2.2.2.1, .int .i64 v.2.2.2.2.1, .int .i64 v.2.2.2.2.2]]⟩
def chase_Next_r4 (C : chase_Next_C) (v : chase_Next_Y2) : Dt chase_Next_Y4 := (Dt.ret (v.1, ((List.length v.1 : Int) == (0:Int)), v.2.2.2.1, v.2.2.2.2.1, v.2.2.2.2.2.1, v.2.2.2.2.2.2))
theorem chase_Next_g4 (C : chase_Next_C) (v : chase_Next_Y2) : treg tysT (orc (chase_Next_tab C)) 30 (regO (bodyOf f9) 4) false [(6, .any), (8, (.val Riiii)), (22, .any)] (chase_Next_S2 v) some = (chase_Next_r4 C v).eval fun y => some (chase_Next_S4 y) := by kernel_rfl
def chase_Next_r5 (C : chase_Next_C) (v : chase_Next_Y4) : Dt chase_Next_Y3 := (Dt.ret ((6:Int), (0:Int), (0:Int), (0:Int), (0:Int)))
theorem chase_Next_g5 (C : chase_Next_C) (v : chase_Next_Y4) : treg tysT (orc (chase_Next_tab C)) 30 (regO (bodyOf f9) 5) false [(6, .any), (7, .any)] (chase_Next_S4 v) some = (chase_Next_r5 C v).eval fun y => some (chase_Next_S3 y) := by kernel_rfl
def chase_Next_r6 (C : chase_Next_C) (v : chase_Next_Y4) : Dt chase_Next_Y3 := (Dt.ite (inB (0:Int) (List.length v.1)) (Dt.ret ((0:Int), (elt ziiii v.1 ((0:Int)).toNat).1, (elt ziiii v.1 ((0:Int)).toNat).2.1, (elt ziiii v.1 ((0:Int)).toNat).2.2.1, (elt ziiii v.1 ((0:Int)).toNat).2.2.2.1)) Dt.fail)
theorem chase_Next_g6 (C : chase_Next_C) (v : chase_Next_Y4) : treg tysT (orc (chase_Next_tab C)) 30 (regO (bodyOf f9) 6) false [(6, .any), (7, .any)] (chase_Next_S4 v) some = (chase_Next_r6 C v).eval fun y => some (chase_Next_S3 y) := by kernel_rfl
def F_chase_Next (d : Nat) (x : chase_Next_X) : Option chase_Next_R :=
  (chase_Next_r0 (chase_Next_K d) (x.1.1, x.2.1.1, x.2.2.1.1, x.2.2.1.2.1)).eval fun y0 =>
  (chase_Next_r1 (chase_Next_K d) y0).eval fun y1 =>
  (chase_Next_r2 (chase_Next_K d) y1).eval fun y2 =>
  bif y2.2.2.1 then ((chase_Next_r3 (chase_Next_K d) y2).eval fun y3 =>
  some (y3.2.1, y3.2.2.1, y3.2.2.2.1, y3.2.2.2.2, y3.1)) else ((chase_Next_r4 (chase_Next_K d) y2).eval fun y4 =>
  bif y4.2.1 then ((chase_Next_r5 (chase_Next_K d) y4).eval fun y5 =>
  some (y5.2.1, y5.2.2.1, y5.2.2.2.1, y5.2.2.2.2, y5.1)) else ((chase_Next_r6 (chase_Next_K d) y4).eval fun y6 =>
  some (y6.2.1, y6.2.2.1, y6.2.2.2.1, y6.2.2.2.2, y6.1)))
theorem chase_Next_cok (d : Nat) : COK prog (chase_Next_sp (F_chase_Next d)) := by
  have hm : prog.follows .mixedOrders = true := mixed
  have hT := tys
  have hC0 : OrcOK prog (orc (chase_Next_tab (chase_Next_K d))) := orc_ok (by
    intro S hS
    simp only [chase_Next_tab, List.mem_cons, List.not_mem_nil, or_false] at hS
    subst hS; exact chase_Plan_cok d)
  have hC : OrcOK prog (orc (chase_Next_tab (chase_Next_K d))) := hC0
  refine cok_of (c := bodyOf f9) (fn := f9) hT (by kernel_rfl) (by kernel_rfl) (by decide) fun x r h w0 φ0 Q hend => ?_
  replace h : F_chase_Next d x = some r := h
  unfold F_chase_Next at h
  show Run prog w0 φ0 30 (bodyOf f9) ⟨[(0, .agg [.fz Riii x.1.1]), (1, .int .i64 x.2.1.1), (2, .agg [.int .i64 x.2.2.1.1, .int .i64 x.2.2.1.2.1])], []⟩ Q
  refine run_seq ?_
  refine run_reg hm hT hC (chase_Next_g0 (chase_Next_K d) (x.1.1, x.2.1.1, x.2.2.1.1, x.2.2.1.2.1)) h ?_
  intro y0 h
  refine cn_then ?_
  refine run_seq ?_
  refine run_reg hm hT hC (chase_Next_g1 (chase_Next_K d) y0) h ?_
  intro y1 h
  refine cn_then ?_
  refine run_seq ?_
  refine run_block ?_
  refine run_seq ?_
  refine run_reg hm hT hC (chase_Next_g2 (chase_Next_K d) y1) h ?_
  intro y2 h
  refine cn_then ?_
  refine run_cond (v := y2.2.2.1) (by kernel_rfl) h ?_ ?_
  ·
    intro h
    refine run_seq ?_
    refine run_reg hm hT hC (chase_Next_g3 (chase_Next_K d) y2) h ?_
    intro y3 h
    refine cn_then ?_
    refine run_ret ?_
    refine cn_blk_ret ?_
    refine cn_then_ret ?_
    cases h
    exact (hend _ (by kernel_rfl)).2
  ·
    intro h
    refine run_seq ?_
    refine run_reg hm hT hC (chase_Next_g4 (chase_Next_K d) y2) h ?_
    intro y4 h
    refine cn_then ?_
    refine run_cond (v := y4.2.1) (by kernel_rfl) h ?_ ?_
    ·
      intro h
      refine run_seq ?_
      refine run_reg hm hT hC (chase_Next_g5 (chase_Next_K d) y4) h ?_
      intro y5 h
      refine cn_then ?_
      refine run_ret ?_
      refine cn_blk_ret ?_
      refine cn_then_ret ?_
      cases h
      exact (hend _ (by kernel_rfl)).2
    ·
      intro h
      refine run_skip ?_
      refine cn_blk ?_
      refine cn_then ?_
      refine run_seq ?_
      refine run_reg hm hT hC (chase_Next_g6 (chase_Next_K d) y4) h ?_
      intro y6 h
      refine cn_then ?_
      refine run_ret ?_
      cases h
      exact (hend _ (by kernel_rfl)).2
abbrev meet_all_ps : List Pk := [.row RLiiiE true]
abbrev meet_all_X : Type := DLiiiE × Unit
abbrev meet_all_R : Type := List Diiii
def meet_all_enc (r : meet_all_R) : LV × List Ob := (.rs 0, [.rows Riiii r])
def meet_all_sp (F : meet_all_X → Option meet_all_R) : Go.Tx.Spec := ⟨22, meet_all_ps, meet_all_R, F, meet_all_enc⟩
abbrev meet_all_C : Type := (course_Meet_X → Option course_Meet_R) × (meet_pairs_X → Option meet_pairs_R) × (meet_order_X → Option meet_order_R) × Unit
def meet_all_K (d : Nat) : meet_all_C := (F_course_Meet d, F_meet_pairs d, F_meet_order d, ())
def meet_all_tab (C : meet_all_C) : List Go.Tx.Spec := [course_Meet_sp C.1, meet_pairs_sp C.2.1, meet_order_sp C.2.2.1]
abbrev meet_all_Y0i : Type := List Diii
def meet_all_S0i (v : meet_all_Y0i) : St := ⟨[(0, .agg [.fz Riii v])], []⟩
abbrev meet_all_Y0 : Type := List Diii
def meet_all_S0 (v : meet_all_Y0) : St := ⟨[(1, .ptr 0 0)], [.cells [.fz Riii v]]⟩
def meet_all_r0 (C : meet_all_C) (v : meet_all_Y0i) : Dt meet_all_Y0 := (Dt.ret v)
theorem meet_all_g0 (C : meet_all_C) (v : meet_all_Y0i) : treg tysT (orcS 41 42 Riiii C.2.2.1 (orc (meet_all_tab C))) 32 (regO (bodyOf f22) 0) false [(1, (.box [.val Riii]))] (meet_all_S0i v) some = (meet_all_r0 C v).eval fun y => some (meet_all_S0 y) := by kernel_rfl
abbrev meet_all_Y1 : Type := List Diii × List Diiii
def meet_all_S1 (v : meet_all_Y1) : St := ⟨[(1, .ptr 0 0), (3, .ptr 1 0)], [.cells [.fz Riii v.1], .cells [.rs 2], .rows Riiii v.2]⟩
def meet_all_r1 (C : meet_all_C) (v : meet_all_Y0) : Dt meet_all_Y1 := (Dt.ret (v, ([] : List Diiii)))
theorem meet_all_g1 (C : meet_all_C) (v : meet_all_Y0) : treg tysT (orcS 41 42 Riiii C.2.2.1 (orc (meet_all_tab C))) 32 (regO (bodyOf f22) 1) false [(1, (.box [.val Riii])), (3, (.box [.own Riiii]))] (meet_all_S0 v) some = (meet_all_r1 C v).eval fun y => some (meet_all_S1 y) := by kernel_rfl
abbrev meet_all_Y2 : Type := List Diiii × List Diii
def meet_all_S2 (v : meet_all_Y2) : St := ⟨[(3, .ptr 0 0), (9, .fn 64 [.ptr 2 0])], [.cells [.rs 1], .rows Riiii v.1, .cells [.fz Riii v.2]]⟩
def meet_all_r2 (C : meet_all_C) (v : meet_all_Y1) : Dt meet_all_Y2 := (Dt.bnd (C.2.1 ((v.1, ()), ())) fun r1 => (Dt.ret (v.2, r1)))
theorem meet_all_g2 (C : meet_all_C) (v : meet_all_Y1) : treg tysT (orcS 41 42 Riiii C.2.2.1 (orc (meet_all_tab C))) 32 (regO (bodyOf f22) 2) false [(3, (.box [.own Riiii])), (9, .any)] (meet_all_S1 v) some = (meet_all_r2 C v).eval fun y => some (meet_all_S2 y) := by kernel_rfl
abbrev meet_all_Y3i : Type := Int × Int × Int × Int × Int × Int × List Diiii
def meet_all_S3i (v : meet_all_Y3i) : St := ⟨[(10, .agg [.int .i64 v.1, .int .i64 v.2.1, .int .i64 v.2.2.1]), (11, .agg [.int .i64 v.2.2.2.1, .int .i64 v.2.2.2.2.1, .int .i64 v.2.2.2.2.2.1]), (3, .ptr 0 0)], [.cells [.rs 1], .rows Riiii v.2.2.2.2.2.2]⟩
abbrev meet_all_Y3 : Type := Int × Int × Int × List Diiii × Int × Int × Int
def meet_all_S3 (v : meet_all_Y3) : St := ⟨[(3, .ptr 0 0), (4, .ptr 2 0), (11, .agg [.int .i64 v.1, .int .i64 v.2.1, .int .i64 v.2.2.1])], [.cells [.rs 1], .rows Riiii v.2.2.2.1, .cells [.int .i64 v.2.2.2.2.1, .int .i64 v.2.2.2.2.2.1, .int .i64 v.2.2.2.2.2.2]]⟩
def meet_all_r3 (C : meet_all_C) (v : meet_all_Y3i) : Dt meet_all_Y3 := (Dt.ret (v.2.2.2.1, v.2.2.2.2.1, v.2.2.2.2.2.1, v.2.2.2.2.2.2, v.1, v.2.1, v.2.2.1))
theorem meet_all_g3 (C : meet_all_C) (v : meet_all_Y3i) : treg tysT (orcS 41 42 Riiii C.2.2.1 (orc (meet_all_tab C))) 32 (regO (bodyOf f22) 3) false [(3, (.box [.own Riiii])), (4, .any), (11, .any)] (meet_all_S3i v) some = (meet_all_r3 C v).eval fun y => some (meet_all_S3 y) := by kernel_rfl
abbrev meet_all_Y4 : Type := List Diiii × Int × Int × Int × Int × Int × Int
def meet_all_S4 (v : meet_all_Y4) : St := ⟨[(3, .ptr 0 0), (4, .ptr 2 0), (5, .ptr 3 0)], [.cells [.rs 1], .rows Riiii v.1, .cells [.int .i64 v.2.1, .int .i64 v.2.2.1, .int .i64 v.2.2.2.1], .cells [.int .i64 v.2.2.2.2.1, .int .i64 v.2.2.2.2.2.1, .int .i64 v.2.2.2.2.2.2]]⟩
def meet_all_r4 (C : meet_all_C) (v : meet_all_Y3) : Dt meet_all_Y4 := (Dt.ret (v.2.2.2.1, v.2.2.2.2.1, v.2.2.2.2.2.1, v.2.2.2.2.2.2, v.1, v.2.1, v.2.2.1))
theorem meet_all_g4 (C : meet_all_C) (v : meet_all_Y3) : treg tysT (orcS 41 42 Riiii C.2.2.1 (orc (meet_all_tab C))) 32 (regO (bodyOf f22) 4) false [(3, (.box [.own Riiii])), (4, .any), (5, .any)] (meet_all_S3 v) some = (meet_all_r4 C v).eval fun y => some (meet_all_S4 y) := by kernel_rfl
abbrev meet_all_Y5 : Type := Int × List Diiii × Int × Int × Int × Int × Int × Int × Int × Int
def meet_all_S5 (v : meet_all_Y5) : St := ⟨[(3, .ptr 0 0), (4, .ptr 2 0), (5, .ptr 3 0), (6, .ptr 4 0), (7, .int .i64 v.1)], [.cells [.rs 1], .rows Riiii v.2.1, .cells [.int .i64 v.2.2.1, .int .i64 v.2.2.2.1, .int .i64 v.2.2.2.2.1], .cells [.int .i64 v.2.2.2.2.2.1, .int .i64 v.2.2.2.2.2.2.1, .int .i64 v.2.2.2.2.2.2.2.1], .cells [.int .i64 v.2.2.2.2.2.2.2.2.1, .int .i64 v.2.2.2.2.2.2.2.2.2]]⟩
def meet_all_r5 (C : meet_all_C) (v : meet_all_Y4) : Dt meet_all_Y5 := (Dt.bnd (C.1 ((v.2.1, v.2.2.1, v.2.2.2.1, ()), (v.2.2.2.2.1, v.2.2.2.2.2.1, v.2.2.2.2.2.2, ()), ())) fun r1 => (Dt.ret (r1.2.2, v.1, v.2.1, v.2.2.1, v.2.2.2.1, v.2.2.2.2.1, v.2.2.2.2.2.1, v.2.2.2.2.2.2, r1.1, r1.2.1)))
theorem meet_all_g5 (C : meet_all_C) (v : meet_all_Y4) : treg tysT (orcS 41 42 Riiii C.2.2.1 (orc (meet_all_tab C))) 32 (regO (bodyOf f22) 5) false [(3, (.box [.own Riiii])), (4, .any), (5, .any), (6, .any), (7, .any)] (meet_all_S4 v) some = (meet_all_r5 C v).eval fun y => some (meet_all_S5 y) := by kernel_rfl
abbrev meet_all_Y6 : Type := Bool × List Diiii × Int × Int × Int × Int × Int × Int × Int × Int
def meet_all_S6 (v : meet_all_Y6) : St := ⟨[(3, .ptr 0 0), (4, .ptr 2 0), (5, .ptr 3 0), (6, .ptr 4 0), (19, .bool v.1)], [.cells [.rs 1], .rows Riiii v.2.1, .cells [.int .i64 v.2.2.1, .int .i64 v.2.2.2.1, .int .i64 v.2.2.2.2.1], .cells [.int .i64 v.2.2.2.2.2.1, .int .i64 v.2.2.2.2.2.2.1, .int .i64 v.2.2.2.2.2.2.2.1], .cells [.int .i64 v.2.2.2.2.2.2.2.2.1, .int .i64 v.2.2.2.2.2.2.2.2.2]]⟩
def meet_all_r6 (C : meet_all_C) (v : meet_all_Y5) : Dt meet_all_Y6 := (Dt.ret ((v.1 == (0:Int)), v.2.1, v.2.2.1, v.2.2.2.1, v.2.2.2.2.1, v.2.2.2.2.2.1, v.2.2.2.2.2.2.1, v.2.2.2.2.2.2.2.1, v.2.2.2.2.2.2.2.2.1, v.2.2.2.2.2.2.2.2.2))
theorem meet_all_g6 (C : meet_all_C) (v : meet_all_Y5) : treg tysT (orcS 41 42 Riiii C.2.2.1 (orc (meet_all_tab C))) 32 (regO (bodyOf f22) 6) false [(3, (.box [.own Riiii])), (4, .any), (5, .any), (6, .any), (19, .any)] (meet_all_S5 v) some = (meet_all_r6 C v).eval fun y => some (meet_all_S6 y) := by kernel_rfl
abbrev meet_all_Y7 : Type := List Diiii
def meet_all_S7 (v : meet_all_Y7) : St := ⟨[(3, .ptr 0 0)], [.cells [.rs 1], .rows Riiii v]⟩
def meet_all_r7 (C : meet_all_C) (v : meet_all_Y6) : Dt meet_all_Y7 := (Dt.ite (apB (List.length v.2.1) (List.length ([(v.2.2.2.2.2.2.2.2.1, v.2.2.2.2.2.2.2.2.2, v.2.2.1, v.2.2.2.2.2.1, ())] : List Diiii))) (Dt.ret (v.2.1 ++ ([(v.2.2.2.2.2.2.2.2.1, v.2.2.2.2.2.2.2.2.2, v.2.2.1, v.2.2.2.2.2.1, ())] : List Diiii))) Dt.fail)
theorem meet_all_g7 (C : meet_all_C) (v : meet_all_Y6) : treg tysT (orcS 41 42 Riiii C.2.2.1 (orc (meet_all_tab C))) 32 (regO (bodyOf f22) 7) false [(3, (.box [.own Riiii]))] (meet_all_S6 v) some = (meet_all_r7 C v).eval fun y => some (meet_all_S7 y) := by kernel_rfl
def meet_all_A1 (d : Nat) (x : Diii × Diii) (y : List Diiii) : Option (List Diiii × Int × Int × Int × Int × Int × Int) :=
  (meet_all_r3 (meet_all_K d) (x.1.1, x.1.2.1, x.1.2.2.1, x.2.1, x.2.2.1, x.2.2.2.1, y)).eval fun y3 =>
  (meet_all_r4 (meet_all_K d) y3).eval fun y4 =>
  some y4
def meet_all_B1 (d : Nat) (w : List Diiii × Int × Int × Int × Int × Int × Int) : Option (List Diiii) :=
  (meet_all_r5 (meet_all_K d) w).eval fun y5 =>
  (meet_all_r6 (meet_all_K d) y5).eval fun y6 =>
  bif y6.1 then ((meet_all_r7 (meet_all_K d) y6).eval fun y7 =>
  some y7) else (some y6.2.1)
def meet_all_r8 (C : meet_all_C) (v : meet_all_Y7) : Dt meet_all_Y7 := (Dt.bnd (sortV (τ := Riiii) C.2.2.1 v) fun r1 => (Dt.ret r1))
theorem meet_all_g8 (C : meet_all_C) (v : meet_all_Y7) : treg tysT (orcS 41 42 Riiii C.2.2.1 (orc (meet_all_tab C))) 32 (regO (bodyOf f22) 8) false [(3, (.box [.own Riiii]))] (meet_all_S7 v) some = (meet_all_r8 C v).eval fun y => some (meet_all_S7 y) := by kernel_rfl
abbrev meet_all_Y9 : Type := List Diiii
def meet_all_S9 (v : meet_all_Y9) : St := ⟨[(2, .rs 0)], [.rows Riiii v]⟩
def meet_all_r9 (C : meet_all_C) (v : meet_all_Y7) : Dt meet_all_Y9 := (Dt.ret v)
theorem meet_all_g9 (C : meet_all_C) (v : meet_all_Y7) : treg tysT (orcS 41 42 Riiii C.2.2.1 (orc (meet_all_tab C))) 32 (regO (bodyOf f22) 9) false [(2, (.own Riiii))] (meet_all_S7 v) some = (meet_all_r9 C v).eval fun y => some (meet_all_S9 y) := by kernel_rfl
def F_meet_all (d : Nat) (x : meet_all_X) : Option meet_all_R :=
  (meet_all_r0 (meet_all_K d) x.1.1).eval fun y0 =>
  (meet_all_r1 (meet_all_K d) y0).eval fun y1 =>
  (meet_all_r2 (meet_all_K d) y1).eval fun y2 =>
  bif pairsB y2.2 then Option.bind (loopF (step2 (meet_all_A1 d) (meet_all_B1 d)) (pairsL y2.2) y2.1) fun z1 =>
  ((meet_all_r8 (meet_all_K d) z1).eval fun y8 =>
  (meet_all_r9 (meet_all_K d) y8).eval fun y9 =>
  some y9) else none
theorem meet_all_cok (d : Nat) : COK prog (meet_all_sp (F_meet_all d)) := by
  have hm : prog.follows .mixedOrders = true := mixed
  have hT := tys
  have hC0 : OrcOK prog (orc (meet_all_tab (meet_all_K d))) := orc_ok (by
    intro S hS
    simp only [meet_all_tab, List.mem_cons, List.not_mem_nil, or_false] at hS
    rcases hS with rfl | rfl | rfl
    · exact course_Meet_cok d
    · exact meet_pairs_cok d
    · exact meet_order_cok d)
  have hC : OrcOK prog (orcS 41 42 Riiii (meet_all_K d).2.2.1 (orc (meet_all_tab (meet_all_K d)))) := (sort_api_Meeting_ok (meet_order_cok d) hC0)
  refine cok_marks (c := bodyOf f22) (fn := f22) hT (by kernel_rfl) (by kernel_rfl) (by decide) fun x r h w0 φ0 Q hend => ?_
  replace h : F_meet_all d x = some r := h
  unfold F_meet_all at h
  show Run prog w0 φ0 32 (bodyOf f22) ⟨[(0, .agg [.fz Riii x.1.1])], []⟩ Q
  refine run_seq ?_
  refine run_reg hm hT hC (meet_all_g0 (meet_all_K d) x.1.1) h ?_
  intro y0 h
  refine cn_then ?_
  refine run_seq ?_
  refine run_reg hm hT hC (meet_all_g1 (meet_all_K d) y0) h ?_
  intro y1 h
  refine cn_then ?_
  refine run_seq ?_
  refine run_seq ?_
  refine run_reg hm hT hC (meet_all_g2 (meet_all_K d) y1) h ?_
  intro y2 h
  refine cn_then ?_
  refine run_block ?_
  obtain ⟨hg1, h⟩ := bif_none h
  obtain ⟨z1, hz1, h⟩ := Option.bind_eq_some_iff.1 h
  refine run_range (b0 := 2) (α := Diii × Diii) (X := List Diiii) (Z := List Diiii × Int × Int × Int × Int × Int × Int) (encs := fun x => #[.agg #[.int .i64 x.1.1, .int .i64 x.1.2.1, .int .i64 x.1.2.2.1], .agg #[.int .i64 x.2.1, .int .i64 x.2.2.1, .int .i64 x.2.2.2.1]]) (xs := (pairsL y2.2)) (A := meet_all_A1 d) (B := meet_all_B1 d) (S1 := fun w => ⟨[(3, .ptr 0 0), (4, .ptr 2 0), (5, .ptr 3 0)], [.cells [.rs 1], .rows Riiii w.1, .cells [.int .i64 w.2.1, .int .i64 w.2.2.1, .int .i64 w.2.2.2.1], .cells [.int .i64 w.2.2.2.2.1, .int .i64 w.2.2.2.2.2.1, .int .i64 w.2.2.2.2.2.2]]⟩) (x0 := y2.1) (z := z1) (tmE := fun y => [(3, .ptr 0 0)]) (keys := [3]) (obs := fun y => [.cells [.rs 1], .rows Riiii y]) (xp := fun x => [(10, .agg [.int .i64 x.1.1, .int .i64 x.1.2.1, .int .i64 x.1.2.2.1]), (11, .agg [.int .i64 x.2.1, .int .i64 x.2.2.1, .int .i64 x.2.2.2.1])]) (ks := [9]) (fun y n l h => keys_at (k := [3]) (tm := [(3, .ptr 0 0)]) rfl h) (by kernel_rfl) (by kernel_rfl) rfl (by kernel_rfl) (by kernel_rfl) (enters_of Tryz.func64 (by kernel_rfl) rfl) (pairs1_iter hg1) (fun _ => rfl) (fun x t hN => ?xp1) (fun l V φ2 Q2 x y y2 h hD hV hend => ?as1) (fun l V φ2 Q2 w y2 h hD hV hend => ?bd1) hz1 (fun φ1 hl1 => ?rs1)
  case xp1 =>
    rw [fold2]
    refine ⟨by simpa using hN, fun n l hn => ?_, fun n hn => ?_⟩
    ·
      simp only [List.mem_cons, List.not_mem_nil, or_false, Prod.mk.injEq] at hn
      rcases hn with ⟨rfl, rfl⟩ | ⟨rfl, rfl⟩
      ·
        exact ⟨_, (sib_ne rfl).trans (sib_self (by (try simp only [Array.size_setIfInBounds]); omega)), fun η => VR.aggL (VRs.cons (.int _ _) (VRs.cons (.int _ _) (VRs.cons (.int _ _) (VRs.nil))))⟩
      ·
        exact ⟨_, sib_self (by (try simp only [Array.size_setIfInBounds]); omega), fun η => VR.aggL (VRs.cons (.int _ _) (VRs.cons (.int _ _) (VRs.cons (.int _ _) (VRs.nil))))⟩
    ·
      simp only [List.mem_cons, List.not_mem_nil, or_false] at hn
      rcases hn with rfl
      all_goals exact (sib_ne rfl).trans ((sib_ne rfl))
  case as1 =>
    unfold meet_all_A1 at h
    show RunI l prog V w0 φ2 32 _ ⟨[(10, .agg [.int .i64 x.1.1, .int .i64 x.1.2.1, .int .i64 x.1.2.2.1]), (11, .agg [.int .i64 x.2.1, .int .i64 x.2.2.1, .int .i64 x.2.2.2.1]), (3, .ptr 0 0)], [.cells [.rs 1], .rows Riiii y]⟩ Q2
    refine runI_seq ?_
    refine runI_reg hm hT hC hV (by kernel_rfl) (by kernel_rfl) (meet_all_g3 (meet_all_K d) (x.1.1, x.1.2.1, x.1.2.2.1, x.2.1, x.2.2.1, x.2.2.2.1, y)) h ?_
    intro y3 h
    refine cnI_then ?_
    refine runI_reg hm hT hC hV (by kernel_rfl) (by kernel_rfl) (meet_all_g4 (meet_all_K d) y3) h ?_
    intro y4 h
    cases h
    exact hend
  case bd1 =>
    unfold meet_all_B1 at h
    show RunI l prog V w0 φ2 32 _ ⟨[(3, .ptr 0 0), (4, .ptr 2 0), (5, .ptr 3 0)], [.cells [.rs 1], .rows Riiii w.1, .cells [.int .i64 w.2.1, .int .i64 w.2.2.1, .int .i64 w.2.2.2.1], .cells [.int .i64 w.2.2.2.2.1, .int .i64 w.2.2.2.2.2.1, .int .i64 w.2.2.2.2.2.2]]⟩ Q2
    refine runI_block ?_
    refine runI_seq ?_
    refine runI_reg hm hT hC hV (by kernel_rfl) (by kernel_rfl) (meet_all_g5 (meet_all_K d) w) h ?_
    intro y5 h
    refine cnI_then ?_
    refine runI_seq ?_
    refine runI_reg hm hT hC hV (by kernel_rfl) (by kernel_rfl) (meet_all_g6 (meet_all_K d) y5) h ?_
    intro y6 h
    refine cnI_then ?_
    refine runI_cond (v := y6.1) (by kernel_rfl) h ?_ ?_
    ·
      intro h
      refine runI_reg hm hT hC hV (by kernel_rfl) (by kernel_rfl) (meet_all_g7 (meet_all_K d) y6) h ?_
      intro y7 h
      refine cnI_blk ?_
      cases h
      exact hend
    ·
      intro h
      refine runI_skip ?_
      refine cnI_blk ?_
      refine cnI_num (s := ⟨[(3, .ptr 0 0)], [.cells [.rs 1], .rows Riiii y6.2.1]⟩) [4, 5, 6, 19] (by kernel_rfl) ?_
      cases h
      exact hend
  case rs1 =>
    refine cn_blk ?_
    refine cn_then ?_
    refine run_seq ?_
    refine run_reg hm hT hC (meet_all_g8 (meet_all_K d) z1) h ?_
    intro y8 h
    refine cn_then ?_
    refine run_seq ?_
    refine run_reg hm hT hC (meet_all_g9 (meet_all_K d) y8) h ?_
    intro y9 h
    refine cn_then ?_
    refine run_ret ?_
    cases h
    exact (hend.2 _ hl1 _ (by kernel_rfl)).2
abbrev meet_Last_ps : List Pk := [.row RLiiiE true]
abbrev meet_Last_X : Type := DLiiiE × Unit
abbrev meet_Last_R : Type := Int × Int × Int
def meet_Last_enc (r : meet_Last_R) : LV × List Ob := (.tup [.agg [.int .i64 r.1, .int .i64 r.2.1], .int .i64 r.2.2], [])
def meet_Last_sp (F : meet_Last_X → Option meet_Last_R) : Go.Tx.Spec := ⟨6, meet_Last_ps, meet_Last_R, F, meet_Last_enc⟩
abbrev meet_Last_C : Type := (meet_check_X → Option meet_check_R) × (meet_all_X → Option meet_all_R) × Unit
def meet_Last_K (d : Nat) : meet_Last_C := (F_meet_check d, F_meet_all d, ())
def meet_Last_tab (C : meet_Last_C) : List Go.Tx.Spec := [meet_check_sp C.1, meet_all_sp C.2.1]
abbrev meet_Last_Y0i : Type := List Diii
def meet_Last_S0i (v : meet_Last_Y0i) : St := ⟨[(0, .agg [.fz Riii v])], []⟩
abbrev meet_Last_Y0 : Type := List Diii × Int × Int
def meet_Last_S0 (v : meet_Last_Y0) : St := ⟨[(1, .ptr 0 0), (2, .ptr 1 0)], [.cells [.fz Riii v.1], .cells [.int .i64 v.2.1, .int .i64 v.2.2]]⟩
def meet_Last_r0 (C : meet_Last_C) (v : meet_Last_Y0i) : Dt meet_Last_Y0 := (Dt.ret (v, (0:Int), (0:Int)))
theorem meet_Last_g0 (C : meet_Last_C) (v : meet_Last_Y0i) : treg tysT (orc (meet_Last_tab C)) 25 (regO (bodyOf f6) 0) false [(1, (.box [.val Riii])), (2, .any)] (meet_Last_S0i v) some = (meet_Last_r0 C v).eval fun y => some (meet_Last_S0 y) := by kernel_rfl
abbrev meet_Last_Y1 : Type := Int × List Diii × Int × Int
def meet_Last_S1 (v : meet_Last_Y1) : St := ⟨[(1, .ptr 0 0), (2, .ptr 1 0), (4, .int .i64 v.1)], [.cells [.fz Riii v.2.1], .cells [.int .i64 v.2.2.1, .int .i64 v.2.2.2]]⟩
def meet_Last_r1 (C : meet_Last_C) (v : meet_Last_Y0) : Dt meet_Last_Y1 := (Dt.bnd (C.1 ((v.1, ()), ([], ()), ())) fun r1 => (Dt.ret (r1, v.1, v.2.1, v.2.2)))
theorem meet_Last_g1 (C : meet_Last_C) (v : meet_Last_Y0) : treg tysT (orc (meet_Last_tab C)) 25 (regO (bodyOf f6) 1) false [(1, (.box [.val Riii])), (2, .any), (4, .any)] (meet_Last_S0 v) some = (meet_Last_r1 C v).eval fun y => some (meet_Last_S1 y) := by kernel_rfl
abbrev meet_Last_Y2 : Type := Int × Bool × List Diii × Int × Int
def meet_Last_S2 (v : meet_Last_Y2) : St := ⟨[(1, .ptr 0 0), (2, .ptr 1 0), (4, .int .i64 v.1), (9, .bool v.2.1)], [.cells [.fz Riii v.2.2.1], .cells [.int .i64 v.2.2.2.1, .int .i64 v.2.2.2.2]]⟩
def meet_Last_r2 (C : meet_Last_C) (v : meet_Last_Y1) : Dt meet_Last_Y2 := (Dt.ret (v.1, (v.1 != (0:Int)), v.2.1, v.2.2.1, v.2.2.2))
theorem meet_Last_g2 (C : meet_Last_C) (v : meet_Last_Y1) : treg tysT (orc (meet_Last_tab C)) 25 (regO (bodyOf f6) 2) false [(1, (.box [.val Riii])), (2, .any), (4, .any), (9, .any)] (meet_Last_S1 v) some = (meet_Last_r2 C v).eval fun y => some (meet_Last_S2 y) := by kernel_rfl
abbrev meet_Last_Y3 : Type := Int × Int × Int
def meet_Last_S3 (v : meet_Last_Y3) : St := ⟨[(2, .ptr 0 0), (3, .int .i64 v.1)], [.cells [.int .i64 v.2.1, .int .i64 v.2.2]]⟩
def meet_Last_r3 (C : meet_Last_C) (v : meet_Last_Y2) : Dt meet_Last_Y3 := (Dt.ret (v.1, (0:Int), (0:Int)))
theorem meet_Last_g3 (C : meet_Last_C) (v : meet_Last_Y2) : treg tysT (orc (meet_Last_tab C)) 25 (regO (bodyOf f6) 3) false [(2, .any), (3, .any)] (meet_Last_S2 v) some = (meet_Last_r3 C v).eval fun y => some (meet_Last_S3 y) := by kernel_rfl
abbrev meet_Last_Y4 : Type := Int × Int × List Diiii
def meet_Last_S4 (v : meet_Last_Y4) : St := ⟨[(2, .ptr 0 0), (5, .rs 1)], [.cells [.int .i64 v.1, .int .i64 v.2.1], .rows Riiii v.2.2]⟩
def meet_Last_r4 (C : meet_Last_C) (v : meet_Last_Y2) : Dt meet_Last_Y4 := (Dt.bnd (C.2.1 ((v.2.2.1, ()), ())) fun r1 => (Dt.ret (v.2.2.2.1, v.2.2.2.2, r1)))
theorem meet_Last_g4 (C : meet_Last_C) (v : meet_Last_Y2) : treg tysT (orc (meet_Last_tab C)) 25 (regO (bodyOf f6) 4) false [(2, .any), (5, (.own Riiii))] (meet_Last_S2 v) some = (meet_Last_r4 C v).eval fun y => some (meet_Last_S4 y) := by kernel_rfl
abbrev meet_Last_Y5 : Type := Bool × Int × Int × List Diiii
def meet_Last_S5 (v : meet_Last_Y5) : St := ⟨[(2, .ptr 0 0), (5, .rs 1), (16, .bool v.1)], [.cells [.int .i64 v.2.1, .int .i64 v.2.2.1], .rows Riiii v.2.2.2]⟩
def meet_Last_r5 (C : meet_Last_C) (v : meet_Last_Y4) : Dt meet_Last_Y5 := (Dt.ret (((List.length v.2.2 : Int) == (0:Int)), v.1, v.2.1, v.2.2))
theorem meet_Last_g5 (C : meet_Last_C) (v : meet_Last_Y4) : treg tysT (orc (meet_Last_tab C)) 25 (regO (bodyOf f6) 5) false [(2, .any), (5, (.own Riiii)), (16, .any)] (meet_Last_S4 v) some = (meet_Last_r5 C v).eval fun y => some (meet_Last_S5 y) := by kernel_rfl
def meet_Last_r6 (C : meet_Last_C) (v : meet_Last_Y5) : Dt meet_Last_Y3 := (Dt.ret ((6:Int), (0:Int), (0:Int)))
theorem meet_Last_g6 (C : meet_Last_C) (v : meet_Last_Y5) : treg tysT (orc (meet_Last_tab C)) 25 (regO (bodyOf f6) 6) false [(2, .any), (3, .any)] (meet_Last_S5 v) some = (meet_Last_r6 C v).eval fun y => some (meet_Last_S3 y) := by kernel_rfl
def meet_Last_r7 (C : meet_Last_C) (v : meet_Last_Y5) : Dt meet_Last_Y3 := (Dt.ite (inB (IntKind.wrap .i64 ((List.length v.2.2.2 : Int) - (1:Int))) (List.length v.2.2.2)) (Dt.ret ((0:Int), (elt ziiii v.2.2.2 ((IntKind.wrap .i64 ((List.length v.2.2.2 : Int) - (1:Int)))).toNat).1, (elt ziiii v.2.2.2 ((IntKind.wrap .i64 ((List.length v.2.2.2 : Int) - (1:Int)))).toNat).2.1)) Dt.fail)
theorem meet_Last_g7 (C : meet_Last_C) (v : meet_Last_Y5) : treg tysT (orc (meet_Last_tab C)) 25 (regO (bodyOf f6) 7) false [(2, .any), (3, .any)] (meet_Last_S5 v) some = (meet_Last_r7 C v).eval fun y => some (meet_Last_S3 y) := by kernel_rfl
def F_meet_Last (d : Nat) (x : meet_Last_X) : Option meet_Last_R :=
  (meet_Last_r0 (meet_Last_K d) x.1.1).eval fun y0 =>
  (meet_Last_r1 (meet_Last_K d) y0).eval fun y1 =>
  (meet_Last_r2 (meet_Last_K d) y1).eval fun y2 =>
  bif y2.2.1 then ((meet_Last_r3 (meet_Last_K d) y2).eval fun y3 =>
  some (y3.2.1, y3.2.2, y3.1)) else ((meet_Last_r4 (meet_Last_K d) y2).eval fun y4 =>
  (meet_Last_r5 (meet_Last_K d) y4).eval fun y5 =>
  bif y5.1 then ((meet_Last_r6 (meet_Last_K d) y5).eval fun y6 =>
  some (y6.2.1, y6.2.2, y6.1)) else ((meet_Last_r7 (meet_Last_K d) y5).eval fun y7 =>
  some (y7.2.1, y7.2.2, y7.1)))
theorem meet_Last_cok (d : Nat) : COK prog (meet_Last_sp (F_meet_Last d)) := by
  have hm : prog.follows .mixedOrders = true := mixed
  have hT := tys
  have hC0 : OrcOK prog (orc (meet_Last_tab (meet_Last_K d))) := orc_ok (by
    intro S hS
    simp only [meet_Last_tab, List.mem_cons, List.not_mem_nil, or_false] at hS
    rcases hS with rfl | rfl
    · exact meet_check_cok d
    · exact meet_all_cok d)
  have hC : OrcOK prog (orc (meet_Last_tab (meet_Last_K d))) := hC0
  refine cok_of (c := bodyOf f6) (fn := f6) hT (by kernel_rfl) (by kernel_rfl) (by decide) fun x r h w0 φ0 Q hend => ?_
  replace h : F_meet_Last d x = some r := h
  unfold F_meet_Last at h
  show Run prog w0 φ0 25 (bodyOf f6) ⟨[(0, .agg [.fz Riii x.1.1])], []⟩ Q
  refine run_seq ?_
  refine run_reg hm hT hC (meet_Last_g0 (meet_Last_K d) x.1.1) h ?_
  intro y0 h
  refine cn_then ?_
  refine run_seq ?_
  refine run_seq ?_
  refine run_reg hm hT hC (meet_Last_g1 (meet_Last_K d) y0) h ?_
  intro y1 h
  refine cn_then ?_
  refine run_seq ?_
  refine run_reg hm hT hC (meet_Last_g2 (meet_Last_K d) y1) h ?_
  intro y2 h
  refine cn_then ?_
  refine run_cond (v := y2.2.1) (by kernel_rfl) h ?_ ?_
  ·
    intro h
    refine run_seq ?_
    refine run_reg hm hT hC (meet_Last_g3 (meet_Last_K d) y2) h ?_
    intro y3 h
    refine cn_then ?_
    refine run_ret ?_
    refine cn_then_ret ?_
    cases h
    exact (hend _ (by kernel_rfl)).2
  ·
    intro h
    refine run_skip ?_
    refine cn_then ?_
    refine run_seq ?_
    refine run_reg hm hT hC (meet_Last_g4 (meet_Last_K d) y2) h ?_
    intro y4 h
    refine cn_then ?_
    refine run_seq ?_
    refine run_seq ?_
    refine run_reg hm hT hC (meet_Last_g5 (meet_Last_K d) y4) h ?_
    intro y5 h
    refine cn_then ?_
    refine run_cond (v := y5.1) (by kernel_rfl) h ?_ ?_
    ·
      intro h
      refine run_seq ?_
      refine run_reg hm hT hC (meet_Last_g6 (meet_Last_K d) y5) h ?_
      intro y6 h
      refine cn_then ?_
      refine run_ret ?_
      refine cn_then_ret ?_
      cases h
      exact (hend _ (by kernel_rfl)).2
    ·
      intro h
      refine run_skip ?_
      refine cn_then ?_
      refine run_seq ?_
      refine run_reg hm hT hC (meet_Last_g7 (meet_Last_K d) y5) h ?_
      intro y7 h
      refine cn_then ?_
      refine run_ret ?_
      cases h
      exact (hend _ (by kernel_rfl)).2
abbrev meet_behind_1_ps : List Pk := [.row Riiii true, .row Rii true]
abbrev meet_behind_1_X : Type := Diiii × Dii × Unit
abbrev meet_behind_1_R : Type := Int
def meet_behind_1_enc (r : meet_behind_1_R) : LV × List Ob := (.int .i64 r, [])
def meet_behind_1_sp (F : meet_behind_1_X → Option meet_behind_1_R) : Go.Tx.Spec := ⟨50, meet_behind_1_ps, meet_behind_1_R, F, meet_behind_1_enc⟩
abbrev meet_behind_1_C : Type := (meet_later_X → Option meet_later_R) × Unit
def meet_behind_1_K (d : Nat) : meet_behind_1_C := (F_meet_later d, ())
def meet_behind_1_tab (C : meet_behind_1_C) : List Go.Tx.Spec := [meet_later_sp C.1]
abbrev meet_behind_1_Y0i : Type := Int × Int × Int × Int × Int × Int
def meet_behind_1_S0i (v : meet_behind_1_Y0i) : St := ⟨[(0, .agg [.int .i64 v.1, .int .i64 v.2.1, .int .i64 v.2.2.1, .int .i64 v.2.2.2.1]), (1, .agg [.int .i64 v.2.2.2.2.1, .int .i64 v.2.2.2.2.2])], []⟩
abbrev meet_behind_1_Y0 : Type := Int × Int × Int × Int × Int × Int
def meet_behind_1_S0 (v : meet_behind_1_Y0) : St := ⟨[(2, .ptr 0 0), (3, .ptr 1 0)], [.cells [.int .i64 v.1, .int .i64 v.2.1, .int .i64 v.2.2.1, .int .i64 v.2.2.2.1], .cells [.int .i64 v.2.2.2.2.1, .int .i64 v.2.2.2.2.2]]⟩
def meet_behind_1_r0 (C : meet_behind_1_C) (v : meet_behind_1_Y0i) : Dt meet_behind_1_Y0 := (Dt.ret (v.1, v.2.1, v.2.2.1, v.2.2.2.1, v.2.2.2.2.1, v.2.2.2.2.2))
theorem meet_behind_1_g0 (C : meet_behind_1_C) (v : meet_behind_1_Y0i) : treg tysT (orc (meet_behind_1_tab C)) 10 (regO (bodyOf f50) 0) false [(2, .any), (3, .any)] (meet_behind_1_S0i v) some = (meet_behind_1_r0 C v).eval fun y => some (meet_behind_1_S0 y) := by kernel_rfl
abbrev meet_behind_1_Y1 : Type := Bool
def meet_behind_1_S1 (v : meet_behind_1_Y1) : St := ⟨[(9, .bool v)], []⟩
def meet_behind_1_r1 (C : meet_behind_1_C) (v : meet_behind_1_Y0) : Dt meet_behind_1_Y1 := (Dt.bnd (C.1 ((v.1, v.2.1, ()), (v.2.2.2.2.1, v.2.2.2.2.2, ()), ())) fun r1 => (Dt.ret (decide (r1 > (0:Int)))))
theorem meet_behind_1_g1 (C : meet_behind_1_C) (v : meet_behind_1_Y0) : treg tysT (orc (meet_behind_1_tab C)) 10 (regO (bodyOf f50) 1) false [(9, .any)] (meet_behind_1_S0 v) some = (meet_behind_1_r1 C v).eval fun y => some (meet_behind_1_S1 y) := by kernel_rfl
abbrev meet_behind_1_Y2 : Type := Int
def meet_behind_1_S2 (v : meet_behind_1_Y2) : St := ⟨[(4, .int .i64 v)], []⟩
def meet_behind_1_r2 (C : meet_behind_1_C) (v : meet_behind_1_Y1) : Dt meet_behind_1_Y2 := (Dt.ret (1:Int))
theorem meet_behind_1_g2 (C : meet_behind_1_C) (v : meet_behind_1_Y1) : treg tysT (orc (meet_behind_1_tab C)) 10 (regO (bodyOf f50) 2) false [(4, .any)] (meet_behind_1_S1 v) some = (meet_behind_1_r2 C v).eval fun y => some (meet_behind_1_S2 y) := by kernel_rfl
def meet_behind_1_r3 (C : meet_behind_1_C) (v : meet_behind_1_Y1) : Dt meet_behind_1_Y2 := (Dt.ret (-1:Int))
theorem meet_behind_1_g3 (C : meet_behind_1_C) (v : meet_behind_1_Y1) : treg tysT (orc (meet_behind_1_tab C)) 10 (regO (bodyOf f50) 3) false [(4, .any)] (meet_behind_1_S1 v) some = (meet_behind_1_r3 C v).eval fun y => some (meet_behind_1_S2 y) := by kernel_rfl
def F_meet_behind_1 (d : Nat) (x : meet_behind_1_X) : Option meet_behind_1_R :=
  (meet_behind_1_r0 (meet_behind_1_K d) (x.1.1, x.1.2.1, x.1.2.2.1, x.1.2.2.2.1, x.2.1.1, x.2.1.2.1)).eval fun y0 =>
  (meet_behind_1_r1 (meet_behind_1_K d) y0).eval fun y1 =>
  bif y1 then ((meet_behind_1_r2 (meet_behind_1_K d) y1).eval fun y2 =>
  some y2) else ((meet_behind_1_r3 (meet_behind_1_K d) y1).eval fun y3 =>
  some y3)
theorem meet_behind_1_cok (d : Nat) : COK prog (meet_behind_1_sp (F_meet_behind_1 d)) := by
  have hm : prog.follows .mixedOrders = true := mixed
  have hT := tys
  have hC0 : OrcOK prog (orc (meet_behind_1_tab (meet_behind_1_K d))) := orc_ok (by
    intro S hS
    simp only [meet_behind_1_tab, List.mem_cons, List.not_mem_nil, or_false] at hS
    subst hS; exact meet_later_cok d)
  have hC : OrcOK prog (orc (meet_behind_1_tab (meet_behind_1_K d))) := hC0
  refine cok_of (c := bodyOf f50) (fn := f50) hT (by kernel_rfl) (by kernel_rfl) (by decide) fun x r h w0 φ0 Q hend => ?_
  replace h : F_meet_behind_1 d x = some r := h
  unfold F_meet_behind_1 at h
  show Run prog w0 φ0 10 (bodyOf f50) ⟨[(0, .agg [.int .i64 x.1.1, .int .i64 x.1.2.1, .int .i64 x.1.2.2.1, .int .i64 x.1.2.2.2.1]), (1, .agg [.int .i64 x.2.1.1, .int .i64 x.2.1.2.1])], []⟩ Q
  refine run_seq ?_
  refine run_reg hm hT hC (meet_behind_1_g0 (meet_behind_1_K d) (x.1.1, x.1.2.1, x.1.2.2.1, x.1.2.2.2.1, x.2.1.1, x.2.1.2.1)) h ?_
  intro y0 h
  refine cn_then ?_
  refine run_seq ?_
  refine run_seq ?_
  refine run_reg hm hT hC (meet_behind_1_g1 (meet_behind_1_K d) y0) h ?_
  intro y1 h
  refine cn_then ?_
  refine run_cond (v := y1) (by kernel_rfl) h ?_ ?_
  ·
    intro h
    refine run_seq ?_
    refine run_reg hm hT hC (meet_behind_1_g2 (meet_behind_1_K d) y1) h ?_
    intro y2 h
    refine cn_then ?_
    refine run_ret ?_
    refine cn_then_ret ?_
    cases h
    exact (hend _ (by kernel_rfl)).2
  ·
    intro h
    refine run_skip ?_
    refine cn_then ?_
    refine run_seq ?_
    refine run_reg hm hT hC (meet_behind_1_g3 (meet_behind_1_K d) y1) h ?_
    intro y3 h
    refine cn_then ?_
    refine run_ret ?_
    cases h
    exact (hend _ (by kernel_rfl)).2
abbrev slices_BinarySearchFunc_api_Meeting_api_Meeting_api_Ratio_at_meet_behind_1_ps : List Pk := [.row RLiiiiE false, .row Rii true, .fn 50 []]
abbrev slices_BinarySearchFunc_api_Meeting_api_Meeting_api_Ratio_at_meet_behind_1_X : Type := DLiiiiE × Dii × (Unit) × Unit
abbrev slices_BinarySearchFunc_api_Meeting_api_Meeting_api_Ratio_at_meet_behind_1_R : Type := Int × Bool
def slices_BinarySearchFunc_api_Meeting_api_Meeting_api_Ratio_at_meet_behind_1_enc (r : slices_BinarySearchFunc_api_Meeting_api_Meeting_api_Ratio_at_meet_behind_1_R) : LV × List Ob := (.tup [.int .i64 r.1, .bool r.2], [])
def slices_BinarySearchFunc_api_Meeting_api_Meeting_api_Ratio_at_meet_behind_1_sp (F : slices_BinarySearchFunc_api_Meeting_api_Meeting_api_Ratio_at_meet_behind_1_X → Option slices_BinarySearchFunc_api_Meeting_api_Meeting_api_Ratio_at_meet_behind_1_R) : Go.Tx.Spec := ⟨49, slices_BinarySearchFunc_api_Meeting_api_Meeting_api_Ratio_at_meet_behind_1_ps, slices_BinarySearchFunc_api_Meeting_api_Meeting_api_Ratio_at_meet_behind_1_R, F, slices_BinarySearchFunc_api_Meeting_api_Meeting_api_Ratio_at_meet_behind_1_enc⟩
abbrev slices_BinarySearchFunc_api_Meeting_api_Meeting_api_Ratio_at_meet_behind_1_C : Type := (meet_behind_1_X → Option meet_behind_1_R) × Unit
def slices_BinarySearchFunc_api_Meeting_api_Meeting_api_Ratio_at_meet_behind_1_K (d : Nat) : slices_BinarySearchFunc_api_Meeting_api_Meeting_api_Ratio_at_meet_behind_1_C := (F_meet_behind_1 d, ())
def slices_BinarySearchFunc_api_Meeting_api_Meeting_api_Ratio_at_meet_behind_1_tab (C : slices_BinarySearchFunc_api_Meeting_api_Meeting_api_Ratio_at_meet_behind_1_C) : List Go.Tx.Spec := [meet_behind_1_sp C.1]
abbrev slices_BinarySearchFunc_api_Meeting_api_Meeting_api_Ratio_at_meet_behind_1_Y0i : Type := List Diiii × Int × Int
def slices_BinarySearchFunc_api_Meeting_api_Meeting_api_Ratio_at_meet_behind_1_S0i (v : slices_BinarySearchFunc_api_Meeting_api_Meeting_api_Ratio_at_meet_behind_1_Y0i) : St := ⟨[(0, .fz Riiii v.1), (1, .agg [.int .i64 v.2.1, .int .i64 v.2.2]), (2, .fn 50 [])], []⟩
abbrev slices_BinarySearchFunc_api_Meeting_api_Meeting_api_Ratio_at_meet_behind_1_Y0 : Type := List Diiii × Int × Int
def slices_BinarySearchFunc_api_Meeting_api_Meeting_api_Ratio_at_meet_behind_1_S0 (v : slices_BinarySearchFunc_api_Meeting_api_Meeting_api_Ratio_at_meet_behind_1_Y0) : St := ⟨[(0, .fz Riiii v.1), (2, .fn 50 []), (4, .ptr 0 0)], [.cells [.int .i64 v.2.1, .int .i64 v.2.2]]⟩
def slices_BinarySearchFunc_api_Meeting_api_Meeting_api_Ratio_at_meet_behind_1_r0 (C : slices_BinarySearchFunc_api_Meeting_api_Meeting_api_Ratio_at_meet_behind_1_C) (v : slices_BinarySearchFunc_api_Meeting_api_Meeting_api_Ratio_at_meet_behind_1_Y0i) : Dt slices_BinarySearchFunc_api_Meeting_api_Meeting_api_Ratio_at_meet_behind_1_Y0 := (Dt.ret (v.1, v.2.1, v.2.2))
theorem slices_BinarySearchFunc_api_Meeting_api_Meeting_api_Ratio_at_meet_behind_1_g0 (C : slices_BinarySearchFunc_api_Meeting_api_Meeting_api_Ratio_at_meet_behind_1_C) (v : slices_BinarySearchFunc_api_Meeting_api_Meeting_api_Ratio_at_meet_behind_1_Y0i) : treg tysT (orc (slices_BinarySearchFunc_api_Meeting_api_Meeting_api_Ratio_at_meet_behind_1_tab C)) 49 (regO (bodyOf f49) 0) false [(0, (.val Riiii)), (2, .any), (4, .any)] (slices_BinarySearchFunc_api_Meeting_api_Meeting_api_Ratio_at_meet_behind_1_S0i v) some = (slices_BinarySearchFunc_api_Meeting_api_Meeting_api_Ratio_at_meet_behind_1_r0 C v).eval fun y => some (slices_BinarySearchFunc_api_Meeting_api_Meeting_api_Ratio_at_meet_behind_1_S0 y) := by kernel_rfl
abbrev slices_BinarySearchFunc_api_Meeting_api_Meeting_api_Ratio_at_meet_behind_1_Y1 : Type := List Diiii × Int × Int × Int
def slices_BinarySearchFunc_api_Meeting_api_Meeting_api_Ratio_at_meet_behind_1_S1 (v : slices_BinarySearchFunc_api_Meeting_api_Meeting_api_Ratio_at_meet_behind_1_Y1) : St := ⟨[(0, .fz Riiii v.1), (2, .fn 50 []), (4, .ptr 0 0), (8, .int .i64 v.2.1)], [.cells [.int .i64 v.2.2.1, .int .i64 v.2.2.2]]⟩
def slices_BinarySearchFunc_api_Meeting_api_Meeting_api_Ratio_at_meet_behind_1_r1 (C : slices_BinarySearchFunc_api_Meeting_api_Meeting_api_Ratio_at_meet_behind_1_C) (v : slices_BinarySearchFunc_api_Meeting_api_Meeting_api_Ratio_at_meet_behind_1_Y0) : Dt slices_BinarySearchFunc_api_Meeting_api_Meeting_api_Ratio_at_meet_behind_1_Y1 := (Dt.ret (v.1, (List.length v.1 : Int), v.2.1, v.2.2))
theorem slices_BinarySearchFunc_api_Meeting_api_Meeting_api_Ratio_at_meet_behind_1_g1 (C : slices_BinarySearchFunc_api_Meeting_api_Meeting_api_Ratio_at_meet_behind_1_C) (v : slices_BinarySearchFunc_api_Meeting_api_Meeting_api_Ratio_at_meet_behind_1_Y0) : treg tysT (orc (slices_BinarySearchFunc_api_Meeting_api_Meeting_api_Ratio_at_meet_behind_1_tab C)) 49 (regO (bodyOf f49) 1) false [(0, (.val Riiii)), (2, .any), (4, .any), (8, .any)] (slices_BinarySearchFunc_api_Meeting_api_Meeting_api_Ratio_at_meet_behind_1_S0 v) some = (slices_BinarySearchFunc_api_Meeting_api_Meeting_api_Ratio_at_meet_behind_1_r1 C v).eval fun y => some (slices_BinarySearchFunc_api_Meeting_api_Meeting_api_Ratio_at_meet_behind_1_S1 y) := by kernel_rfl
abbrev slices_BinarySearchFunc_api_Meeting_api_Meeting_api_Ratio_at_meet_behind_1_Y2 : Type := List Diiii × Int × Int × Int × Int × Int
def slices_BinarySearchFunc_api_Meeting_api_Meeting_api_Ratio_at_meet_behind_1_S2 (v : slices_BinarySearchFunc_api_Meeting_api_Meeting_api_Ratio_at_meet_behind_1_Y2) : St := ⟨[(0, .fz Riiii v.1), (2, .fn 50 []), (4, .ptr 0 0), (8, .int .i64 v.2.1), (9, .int .i64 v.2.2.1), (10, .int .i64 v.2.2.2.1)], [.cells [.int .i64 v.2.2.2.2.1, .int .i64 v.2.2.2.2.2]]⟩
def slices_BinarySearchFunc_api_Meeting_api_Meeting_api_Ratio_at_meet_behind_1_r2 (C : slices_BinarySearchFunc_api_Meeting_api_Meeting_api_Ratio_at_meet_behind_1_C) (v : slices_BinarySearchFunc_api_Meeting_api_Meeting_api_Ratio_at_meet_behind_1_Y1) : Dt slices_BinarySearchFunc_api_Meeting_api_Meeting_api_Ratio_at_meet_behind_1_Y2 := (Dt.ret (v.1, v.2.1, (0:Int), v.2.1, v.2.2.1, v.2.2.2))
theorem slices_BinarySearchFunc_api_Meeting_api_Meeting_api_Ratio_at_meet_behind_1_g2 (C : slices_BinarySearchFunc_api_Meeting_api_Meeting_api_Ratio_at_meet_behind_1_C) (v : slices_BinarySearchFunc_api_Meeting_api_Meeting_api_Ratio_at_meet_behind_1_Y1) : treg tysT (orc (slices_BinarySearchFunc_api_Meeting_api_Meeting_api_Ratio_at_meet_behind_1_tab C)) 49 (regO (bodyOf f49) 2) false [(0, (.val Riiii)), (2, .any), (4, .any), (8, .any), (9, .any), (10, .any)] (slices_BinarySearchFunc_api_Meeting_api_Meeting_api_Ratio_at_meet_behind_1_S1 v) some = (slices_BinarySearchFunc_api_Meeting_api_Meeting_api_Ratio_at_meet_behind_1_r2 C v).eval fun y => some (slices_BinarySearchFunc_api_Meeting_api_Meeting_api_Ratio_at_meet_behind_1_S2 y) := by kernel_rfl
abbrev slices_BinarySearchFunc_api_Meeting_api_Meeting_api_Ratio_at_meet_behind_1_Y3 : Type := List Diiii × Int × Int × Int × Bool × Int × Int
def slices_BinarySearchFunc_api_Meeting_api_Meeting_api_Ratio_at_meet_behind_1_S3 (v : slices_BinarySearchFunc_api_Meeting_api_Meeting_api_Ratio_at_meet_behind_1_Y3) : St := ⟨[(0, .fz Riiii v.1), (2, .fn 50 []), (4, .ptr 0 0), (8, .int .i64 v.2.1), (9, .int .i64 v.2.2.1), (10, .int .i64 v.2.2.2.1), (17, .bool v.2.2.2.2.1)], [.cells [.int .i64 v.2.2.2.2.2.1, .int .i64 v.2.2.2.2.2.2]]⟩
def slices_BinarySearchFunc_api_Meeting_api_Meeting_api_Ratio_at_meet_behind_1_r3 (C : slices_BinarySearchFunc_api_Meeting_api_Meeting_api_Ratio_at_meet_behind_1_C) (v : slices_BinarySearchFunc_api_Meeting_api_Meeting_api_Ratio_at_meet_behind_1_Y2) : Dt slices_BinarySearchFunc_api_Meeting_api_Meeting_api_Ratio_at_meet_behind_1_Y3 := (Dt.ret (v.1, v.2.1, v.2.2.1, v.2.2.2.1, (decide (v.2.2.1 < v.2.2.2.1)), v.2.2.2.2.1, v.2.2.2.2.2))
theorem slices_BinarySearchFunc_api_Meeting_api_Meeting_api_Ratio_at_meet_behind_1_g3 (C : slices_BinarySearchFunc_api_Meeting_api_Meeting_api_Ratio_at_meet_behind_1_C) (v : slices_BinarySearchFunc_api_Meeting_api_Meeting_api_Ratio_at_meet_behind_1_Y2) : treg tysT (orc (slices_BinarySearchFunc_api_Meeting_api_Meeting_api_Ratio_at_meet_behind_1_tab C)) 49 (regO (bodyOf f49) 3) false [(0, (.val Riiii)), (2, .any), (4, .any), (8, .any), (9, .any), (10, .any), (17, .any)] (slices_BinarySearchFunc_api_Meeting_api_Meeting_api_Ratio_at_meet_behind_1_S2 v) some = (slices_BinarySearchFunc_api_Meeting_api_Meeting_api_Ratio_at_meet_behind_1_r3 C v).eval fun y => some (slices_BinarySearchFunc_api_Meeting_api_Meeting_api_Ratio_at_meet_behind_1_S3 y) := by kernel_rfl
abbrev slices_BinarySearchFunc_api_Meeting_api_Meeting_api_Ratio_at_meet_behind_1_Y4 : Type := List Diiii × Int × Int × Int × Int × Int × Int
def slices_BinarySearchFunc_api_Meeting_api_Meeting_api_Ratio_at_meet_behind_1_S4 (v : slices_BinarySearchFunc_api_Meeting_api_Meeting_api_Ratio_at_meet_behind_1_Y4) : St := ⟨[(0, .fz Riiii v.1), (2, .fn 50 []), (4, .ptr 0 0), (8, .int .i64 v.2.1), (9, .int .i64 v.2.2.1), (10, .int .i64 v.2.2.2.1), (11, .int .i64 v.2.2.2.2.1)], [.cells [.int .i64 v.2.2.2.2.2.1, .int .i64 v.2.2.2.2.2.2]]⟩
def slices_BinarySearchFunc_api_Meeting_api_Meeting_api_Ratio_at_meet_behind_1_r4 (C : slices_BinarySearchFunc_api_Meeting_api_Meeting_api_Ratio_at_meet_behind_1_C) (v : slices_BinarySearchFunc_api_Meeting_api_Meeting_api_Ratio_at_meet_behind_1_Y3) : Dt slices_BinarySearchFunc_api_Meeting_api_Meeting_api_Ratio_at_meet_behind_1_Y4 := (Dt.ret (v.1, v.2.1, v.2.2.1, v.2.2.2.1, (IntKind.wrap .i64 (shrI .u64 (IntKind.wrap .u64 (IntKind.wrap .i64 (v.2.2.1 + v.2.2.2.1))) (1:Int))), v.2.2.2.2.2.1, v.2.2.2.2.2.2))
theorem slices_BinarySearchFunc_api_Meeting_api_Meeting_api_Ratio_at_meet_behind_1_g4 (C : slices_BinarySearchFunc_api_Meeting_api_Meeting_api_Ratio_at_meet_behind_1_C) (v : slices_BinarySearchFunc_api_Meeting_api_Meeting_api_Ratio_at_meet_behind_1_Y3) : treg tysT (orc (slices_BinarySearchFunc_api_Meeting_api_Meeting_api_Ratio_at_meet_behind_1_tab C)) 49 (regO (bodyOf f49) 4) false [(0, (.val Riiii)), (2, .any), (4, .any), (8, .any), (9, .any), (10, .any), (11, .any)] (slices_BinarySearchFunc_api_Meeting_api_Meeting_api_Ratio_at_meet_behind_1_S3 v) some = (slices_BinarySearchFunc_api_Meeting_api_Meeting_api_Ratio_at_meet_behind_1_r4 C v).eval fun y => some (slices_BinarySearchFunc_api_Meeting_api_Meeting_api_Ratio_at_meet_behind_1_S4 y) := by kernel_rfl
abbrev slices_BinarySearchFunc_api_Meeting_api_Meeting_api_Ratio_at_meet_behind_1_Y5 : Type := List Diiii × Int × Int × Int × Int × Bool × Int × Int
def slices_BinarySearchFunc_api_Meeting_api_Meeting_api_Ratio_at_meet_behind_1_S5 (v : slices_BinarySearchFunc_api_Meeting_api_Meeting_api_Ratio_at_meet_behind_1_Y5) : St := ⟨[(0, .fz Riiii v.1), (2, .fn 50 []), (4, .ptr 0 0), (8, .int .i64 v.2.1), (9, .int .i64 v.2.2.1), (10, .int .i64 v.2.2.2.1), (11, .int .i64 v.2.2.2.2.1), (31, .bool v.2.2.2.2.2.1)], [.cells [.int .i64 v.2.2.2.2.2.2.1, .int .i64 v.2.2.2.2.2.2.2]]⟩
def slices_BinarySearchFunc_api_Meeting_api_Meeting_api_Ratio_at_meet_behind_1_r5 (C : slices_BinarySearchFunc_api_Meeting_api_Meeting_api_Ratio_at_meet_behind_1_C) (v : slices_BinarySearchFunc_api_Meeting_api_Meeting_api_Ratio_at_meet_behind_1_Y4) : Dt slices_BinarySearchFunc_api_Meeting_api_Meeting_api_Ratio_at_meet_behind_1_Y5 := (Dt.ite (inB v.2.2.2.2.1 (List.length v.1)) (Dt.bnd (C.1 (((elt ziiii v.1 (v.2.2.2.2.1).toNat).1, (elt ziiii v.1 (v.2.2.2.2.1).toNat).2.1, (elt ziiii v.1 (v.2.2.2.2.1).toNat).2.2.1, (elt ziiii v.1 (v.2.2.2.2.1).toNat).2.2.2.1, ()), (v.2.2.2.2.2.1, v.2.2.2.2.2.2, ()), ())) fun r1 => (Dt.ret (v.1, v.2.1, v.2.2.1, v.2.2.2.1, v.2.2.2.2.1, (decide (r1 < (0:Int))), v.2.2.2.2.2.1, v.2.2.2.2.2.2))) Dt.fail)
theorem slices_BinarySearchFunc_api_Meeting_api_Meeting_api_Ratio_at_meet_behind_1_g5 (C : slices_BinarySearchFunc_api_Meeting_api_Meeting_api_Ratio_at_meet_behind_1_C) (v : slices_BinarySearchFunc_api_Meeting_api_Meeting_api_Ratio_at_meet_behind_1_Y4) : treg tysT (orc (slices_BinarySearchFunc_api_Meeting_api_Meeting_api_Ratio_at_meet_behind_1_tab C)) 49 (regO (bodyOf f49) 5) true [(0, (.val Riiii)), (2, .any), (4, .any), (8, .any), (9, .any), (10, .any), (11, .any), (31, .any)] (slices_BinarySearchFunc_api_Meeting_api_Meeting_api_Ratio_at_meet_behind_1_S4 v) some = (slices_BinarySearchFunc_api_Meeting_api_Meeting_api_Ratio_at_meet_behind_1_r5 C v).eval fun y => some (slices_BinarySearchFunc_api_Meeting_api_Meeting_api_Ratio_at_meet_behind_1_S5 y) := by kernel_rfl
def slices_BinarySearchFunc_api_Meeting_api_Meeting_api_Ratio_at_meet_behind_1_r6 (C : slices_BinarySearchFunc_api_Meeting_api_Meeting_api_Ratio_at_meet_behind_1_C) (v : slices_BinarySearchFunc_api_Meeting_api_Meeting_api_Ratio_at_meet_behind_1_Y5) : Dt slices_BinarySearchFunc_api_Meeting_api_Meeting_api_Ratio_at_meet_behind_1_Y2 := (Dt.ret (v.1, v.2.1, (IntKind.wrap .i64 (v.2.2.2.2.1 + (1:Int))), v.2.2.2.1, v.2.2.2.2.2.2.1, v.2.2.2.2.2.2.2))
theorem slices_BinarySearchFunc_api_Meeting_api_Meeting_api_Ratio_at_meet_behind_1_g6 (C : slices_BinarySearchFunc_api_Meeting_api_Meeting_api_Ratio_at_meet_behind_1_C) (v : slices_BinarySearchFunc_api_Meeting_api_Meeting_api_Ratio_at_meet_behind_1_Y5) : treg tysT (orc (slices_BinarySearchFunc_api_Meeting_api_Meeting_api_Ratio_at_meet_behind_1_tab C)) 49 (regO (bodyOf f49) 6) false [(0, (.val Riiii)), (2, .any), (4, .any), (8, .any), (9, .any), (10, .any)] (slices_BinarySearchFunc_api_Meeting_api_Meeting_api_Ratio_at_meet_behind_1_S5 v) some = (slices_BinarySearchFunc_api_Meeting_api_Meeting_api_Ratio_at_meet_behind_1_r6 C v).eval fun y => some (slices_BinarySearchFunc_api_Meeting_api_Meeting_api_Ratio_at_meet_behind_1_S2 y) := by kernel_rfl
def slices_BinarySearchFunc_api_Meeting_api_Meeting_api_Ratio_at_meet_behind_1_r7 (C : slices_BinarySearchFunc_api_Meeting_api_Meeting_api_Ratio_at_meet_behind_1_C) (v : slices_BinarySearchFunc_api_Meeting_api_Meeting_api_Ratio_at_meet_behind_1_Y5) : Dt slices_BinarySearchFunc_api_Meeting_api_Meeting_api_Ratio_at_meet_behind_1_Y2 := (Dt.ret (v.1, v.2.1, v.2.2.1, v.2.2.2.2.1, v.2.2.2.2.2.2.1, v.2.2.2.2.2.2.2))
theorem slices_BinarySearchFunc_api_Meeting_api_Meeting_api_Ratio_at_meet_behind_1_g7 (C : slices_BinarySearchFunc_api_Meeting_api_Meeting_api_Ratio_at_meet_behind_1_C) (v : slices_BinarySearchFunc_api_Meeting_api_Meeting_api_Ratio_at_meet_behind_1_Y5) : treg tysT (orc (slices_BinarySearchFunc_api_Meeting_api_Meeting_api_Ratio_at_meet_behind_1_tab C)) 49 (regO (bodyOf f49) 7) false [(0, (.val Riiii)), (2, .any), (4, .any), (8, .any), (9, .any), (10, .any)] (slices_BinarySearchFunc_api_Meeting_api_Meeting_api_Ratio_at_meet_behind_1_S5 v) some = (slices_BinarySearchFunc_api_Meeting_api_Meeting_api_Ratio_at_meet_behind_1_r7 C v).eval fun y => some (slices_BinarySearchFunc_api_Meeting_api_Meeting_api_Ratio_at_meet_behind_1_S2 y) := by kernel_rfl
abbrev slices_BinarySearchFunc_api_Meeting_api_Meeting_api_Ratio_at_meet_behind_1_Y8 : Type := Int × Bool
def slices_BinarySearchFunc_api_Meeting_api_Meeting_api_Ratio_at_meet_behind_1_S8 (v : slices_BinarySearchFunc_api_Meeting_api_Meeting_api_Ratio_at_meet_behind_1_Y8) : St := ⟨[(6, .int .i64 v.1), (7, .bool v.2)], []⟩
def slices_BinarySearchFunc_api_Meeting_api_Meeting_api_Ratio_at_meet_behind_1_r8 (C : slices_BinarySearchFunc_api_Meeting_api_Meeting_api_Ratio_at_meet_behind_1_C) (v : slices_BinarySearchFunc_api_Meeting_api_Meeting_api_Ratio_at_meet_behind_1_Y3) : Dt slices_BinarySearchFunc_api_Meeting_api_Meeting_api_Ratio_at_meet_behind_1_Y8 := (Dt.ite (decide (v.2.2.1 < v.2.1)) (Dt.ite (inB v.2.2.1 (List.length v.1)) (Dt.bnd (C.1 (((elt ziiii v.1 (v.2.2.1).toNat).1, (elt ziiii v.1 (v.2.2.1).toNat).2.1, (elt ziiii v.1 (v.2.2.1).toNat).2.2.1, (elt ziiii v.1 (v.2.2.1).toNat).2.2.2.1, ()), (v.2.2.2.2.2.1, v.2.2.2.2.2.2, ()), ())) fun r1 => (Dt.ret (v.2.2.1, (r1 == (0:Int))))) Dt.fail) (Dt.ret (v.2.2.1, false)))
theorem slices_BinarySearchFunc_api_Meeting_api_Meeting_api_Ratio_at_meet_behind_1_g8 (C : slices_BinarySearchFunc_api_Meeting_api_Meeting_api_Ratio_at_meet_behind_1_C) (v : slices_BinarySearchFunc_api_Meeting_api_Meeting_api_Ratio_at_meet_behind_1_Y3) : treg tysT (orc (slices_BinarySearchFunc_api_Meeting_api_Meeting_api_Ratio_at_meet_behind_1_tab C)) 49 (regO (bodyOf f49) 8) true [(6, .any), (7, .any)] (slices_BinarySearchFunc_api_Meeting_api_Meeting_api_Ratio_at_meet_behind_1_S3 v) some = (slices_BinarySearchFunc_api_Meeting_api_Meeting_api_Ratio_at_meet_behind_1_r8 C v).eval fun y => some (slices_BinarySearchFunc_api_Meeting_api_Meeting_api_Ratio_at_meet_behind_1_S8 y) := by kernel_rfl
def slices_BinarySearchFunc_api_Meeting_api_Meeting_api_Ratio_at_meet_behind_1_L1 (d : Nat) (self1 : (List Diiii × Int × Int × Int × Int × Int) → Option slices_BinarySearchFunc_api_Meeting_api_Meeting_api_Ratio_at_meet_behind_1_R) (x1 : List Diiii × Int × Int × Int × Int × Int) : Option slices_BinarySearchFunc_api_Meeting_api_Meeting_api_Ratio_at_meet_behind_1_R :=
  (slices_BinarySearchFunc_api_Meeting_api_Meeting_api_Ratio_at_meet_behind_1_r3 (slices_BinarySearchFunc_api_Meeting_api_Meeting_api_Ratio_at_meet_behind_1_K d) x1).eval fun y3 =>
  bif y3.2.2.2.2.1 then ((slices_BinarySearchFunc_api_Meeting_api_Meeting_api_Ratio_at_meet_behind_1_r4 (slices_BinarySearchFunc_api_Meeting_api_Meeting_api_Ratio_at_meet_behind_1_K d) y3).eval fun y4 =>
  (slices_BinarySearchFunc_api_Meeting_api_Meeting_api_Ratio_at_meet_behind_1_r5 (slices_BinarySearchFunc_api_Meeting_api_Meeting_api_Ratio_at_meet_behind_1_K d) y4).eval fun y5 =>
  bif y5.2.2.2.2.2.1 then ((slices_BinarySearchFunc_api_Meeting_api_Meeting_api_Ratio_at_meet_behind_1_r6 (slices_BinarySearchFunc_api_Meeting_api_Meeting_api_Ratio_at_meet_behind_1_K d) y5).eval fun y6 =>
  self1 y6) else ((slices_BinarySearchFunc_api_Meeting_api_Meeting_api_Ratio_at_meet_behind_1_r7 (slices_BinarySearchFunc_api_Meeting_api_Meeting_api_Ratio_at_meet_behind_1_K d) y5).eval fun y7 =>
  self1 y7)) else ((slices_BinarySearchFunc_api_Meeting_api_Meeting_api_Ratio_at_meet_behind_1_r8 (slices_BinarySearchFunc_api_Meeting_api_Meeting_api_Ratio_at_meet_behind_1_K d) y3).eval fun y8 =>
  some y8)
def F_slices_BinarySearchFunc_api_Meeting_api_Meeting_api_Ratio_at_meet_behind_1 (d : Nat) (x : slices_BinarySearchFunc_api_Meeting_api_Meeting_api_Ratio_at_meet_behind_1_X) : Option slices_BinarySearchFunc_api_Meeting_api_Meeting_api_Ratio_at_meet_behind_1_R :=
  (slices_BinarySearchFunc_api_Meeting_api_Meeting_api_Ratio_at_meet_behind_1_r0 (slices_BinarySearchFunc_api_Meeting_api_Meeting_api_Ratio_at_meet_behind_1_K d) (x.1.1, x.2.1.1, x.2.1.2.1)).eval fun y0 =>
  (slices_BinarySearchFunc_api_Meeting_api_Meeting_api_Ratio_at_meet_behind_1_r1 (slices_BinarySearchFunc_api_Meeting_api_Meeting_api_Ratio_at_meet_behind_1_K d) y0).eval fun y1 =>
  (slices_BinarySearchFunc_api_Meeting_api_Meeting_api_Ratio_at_meet_behind_1_r2 (slices_BinarySearchFunc_api_Meeting_api_Meeting_api_Ratio_at_meet_behind_1_K d) y1).eval fun y2 =>
  iter (slices_BinarySearchFunc_api_Meeting_api_Meeting_api_Ratio_at_meet_behind_1_L1 d ) d y2
theorem slices_BinarySearchFunc_api_Meeting_api_Meeting_api_Ratio_at_meet_behind_1_cok (d : Nat) : COK prog (slices_BinarySearchFunc_api_Meeting_api_Meeting_api_Ratio_at_meet_behind_1_sp (F_slices_BinarySearchFunc_api_Meeting_api_Meeting_api_Ratio_at_meet_behind_1 d)) := by
  have hm : prog.follows .mixedOrders = true := mixed
  have hT := tys
  have hC0 : OrcOK prog (orc (slices_BinarySearchFunc_api_Meeting_api_Meeting_api_Ratio_at_meet_behind_1_tab (slices_BinarySearchFunc_api_Meeting_api_Meeting_api_Ratio_at_meet_behind_1_K d))) := orc_ok (by
    intro S hS
    simp only [slices_BinarySearchFunc_api_Meeting_api_Meeting_api_Ratio_at_meet_behind_1_tab, List.mem_cons, List.not_mem_nil, or_false] at hS
    subst hS; exact meet_behind_1_cok d)
  have hC : OrcOK prog (orc (slices_BinarySearchFunc_api_Meeting_api_Meeting_api_Ratio_at_meet_behind_1_tab (slices_BinarySearchFunc_api_Meeting_api_Meeting_api_Ratio_at_meet_behind_1_K d))) := hC0
  refine cok_of (c := bodyOf f49) (fn := f49) hT (by kernel_rfl) (by kernel_rfl) (by decide) fun x r h w0 φ0 Q hend => ?_
  replace h : F_slices_BinarySearchFunc_api_Meeting_api_Meeting_api_Ratio_at_meet_behind_1 d x = some r := h
  unfold F_slices_BinarySearchFunc_api_Meeting_api_Meeting_api_Ratio_at_meet_behind_1 at h
  show Run prog w0 φ0 49 (bodyOf f49) ⟨[(0, .fz Riiii x.1.1), (1, .agg [.int .i64 x.2.1.1, .int .i64 x.2.1.2.1]), (2, .fn 50 [])], []⟩ Q
  refine run_seq ?_
  refine run_reg hm hT hC (slices_BinarySearchFunc_api_Meeting_api_Meeting_api_Ratio_at_meet_behind_1_g0 (slices_BinarySearchFunc_api_Meeting_api_Meeting_api_Ratio_at_meet_behind_1_K d) (x.1.1, x.2.1.1, x.2.1.2.1)) h ?_
  intro y0 h
  refine cn_then ?_
  refine run_seq ?_
  refine run_reg hm hT hC (slices_BinarySearchFunc_api_Meeting_api_Meeting_api_Ratio_at_meet_behind_1_g1 (slices_BinarySearchFunc_api_Meeting_api_Meeting_api_Ratio_at_meet_behind_1_K d) y0) h ?_
  intro y1 h
  refine cn_then ?_
  refine run_seq ?_
  refine run_reg hm hT hC (slices_BinarySearchFunc_api_Meeting_api_Meeting_api_Ratio_at_meet_behind_1_g2 (slices_BinarySearchFunc_api_Meeting_api_Meeting_api_Ratio_at_meet_behind_1_K d) y1) h ?_
  intro y2 h
  refine cn_then ?_
  refine run_seq ?_
  refine run_block ?_
  refine run_loop (G := iter (slices_BinarySearchFunc_api_Meeting_api_Meeting_api_Ratio_at_meet_behind_1_L1 d )) (S := (fun x1 => ⟨[(0, .fz Riiii x1.1), (2, .fn 50 []), (4, .ptr 0 0), (8, .int .i64 x1.2.1), (9, .int .i64 x1.2.2.1), (10, .int .i64 x1.2.2.2.1)], [.cells [.int .i64 x1.2.2.2.2.1, .int .i64 x1.2.2.2.2.2]]⟩ : List Diiii × Int × Int × Int × Int × Int → St)) (fun _ => rfl) ?_ d _ h
  intro n1 x1 h K1 hn1
  replace h : slices_BinarySearchFunc_api_Meeting_api_Meeting_api_Ratio_at_meet_behind_1_L1 d  (iter (slices_BinarySearchFunc_api_Meeting_api_Meeting_api_Ratio_at_meet_behind_1_L1 d ) n1) x1 = some r := h
  generalize iter (slices_BinarySearchFunc_api_Meeting_api_Meeting_api_Ratio_at_meet_behind_1_L1 d ) n1 = self1 at h hn1
  unfold slices_BinarySearchFunc_api_Meeting_api_Meeting_api_Ratio_at_meet_behind_1_L1 at h
  refine run_seq ?_
  refine run_seq ?_
  refine run_reg hm hT hC (slices_BinarySearchFunc_api_Meeting_api_Meeting_api_Ratio_at_meet_behind_1_g3 (slices_BinarySearchFunc_api_Meeting_api_Meeting_api_Ratio_at_meet_behind_1_K d) x1) h ?_
  intro y3 h
  refine cn_then ?_
  refine run_cond (v := y3.2.2.2.2.1) (by kernel_rfl) h ?_ ?_
  ·
    intro h
    refine run_skip ?_
    refine cn_then ?_
    refine run_block ?_
    refine run_seq ?_
    refine run_reg hm hT hC (slices_BinarySearchFunc_api_Meeting_api_Meeting_api_Ratio_at_meet_behind_1_g4 (slices_BinarySearchFunc_api_Meeting_api_Meeting_api_Ratio_at_meet_behind_1_K d) y3) h ?_
    intro y4 h
    refine cn_then ?_
    refine run_seq ?_
    refine run_reg hm hT hC (slices_BinarySearchFunc_api_Meeting_api_Meeting_api_Ratio_at_meet_behind_1_g5 (slices_BinarySearchFunc_api_Meeting_api_Meeting_api_Ratio_at_meet_behind_1_K d) y4) h ?_
    intro y5 h
    refine cn_then ?_
    refine run_cond (v := y5.2.2.2.2.2.1) (by kernel_rfl) h ?_ ?_
    ·
      intro h
      refine run_reg hm hT hC (slices_BinarySearchFunc_api_Meeting_api_Meeting_api_Ratio_at_meet_behind_1_g6 (slices_BinarySearchFunc_api_Meeting_api_Meeting_api_Ratio_at_meet_behind_1_K d) y5) h ?_
      intro y6 h
      refine cn_blk ?_
      exact hn1 _ h
    ·
      intro h
      refine run_reg hm hT hC (slices_BinarySearchFunc_api_Meeting_api_Meeting_api_Ratio_at_meet_behind_1_g7 (slices_BinarySearchFunc_api_Meeting_api_Meeting_api_Ratio_at_meet_behind_1_K d) y5) h ?_
      intro y7 h
      refine cn_blk ?_
      exact hn1 _ h
  ·
    intro h
    refine run_exit ?_
    refine cn_then_exit ?_
    refine cn_then_exit ?_
    refine cn_blk_eq ?_
    refine cn_then ?_
    refine run_seq ?_
    refine run_reg hm hT hC (slices_BinarySearchFunc_api_Meeting_api_Meeting_api_Ratio_at_meet_behind_1_g8 (slices_BinarySearchFunc_api_Meeting_api_Meeting_api_Ratio_at_meet_behind_1_K d) y3) h ?_
    intro y8 h
    refine cn_then ?_
    refine run_ret ?_
    cases h
    exact (hend _ (by kernel_rfl)).2
abbrev meet_behind_ps : List Pk := [.row RLiiiiE false, .row Rii true]
abbrev meet_behind_X : Type := DLiiiiE × Dii × Unit
abbrev meet_behind_R : Type := Int
def meet_behind_enc (r : meet_behind_R) : LV × List Ob := (.int .i64 r, [])
def meet_behind_sp (F : meet_behind_X → Option meet_behind_R) : Go.Tx.Spec := ⟨30, meet_behind_ps, meet_behind_R, F, meet_behind_enc⟩
abbrev meet_behind_C : Type := (slices_BinarySearchFunc_api_Meeting_api_Meeting_api_Ratio_at_meet_behind_1_X → Option slices_BinarySearchFunc_api_Meeting_api_Meeting_api_Ratio_at_meet_behind_1_R) × Unit
def meet_behind_K (d : Nat) : meet_behind_C := (F_slices_BinarySearchFunc_api_Meeting_api_Meeting_api_Ratio_at_meet_behind_1 d, ())
def meet_behind_tab (C : meet_behind_C) : List Go.Tx.Spec := [slices_BinarySearchFunc_api_Meeting_api_Meeting_api_Ratio_at_meet_behind_1_sp C.1]
abbrev meet_behind_Y0i : Type := List Diiii × Int × Int
def meet_behind_S0i (v : meet_behind_Y0i) : St := ⟨[(0, .fz Riiii v.1), (1, .agg [.int .i64 v.2.1, .int .i64 v.2.2])], []⟩
abbrev meet_behind_Y0 : Type := List Diiii × Int × Int
def meet_behind_S0 (v : meet_behind_Y0) : St := ⟨[(0, .fz Riiii v.1), (3, .ptr 0 0)], [.cells [.int .i64 v.2.1, .int .i64 v.2.2]]⟩
def meet_behind_r0 (C : meet_behind_C) (v : meet_behind_Y0i) : Dt meet_behind_Y0 := (Dt.ret (v.1, v.2.1, v.2.2))
theorem meet_behind_g0 (C : meet_behind_C) (v : meet_behind_Y0i) : treg tysT (orc (meet_behind_tab C)) 14 (regO (bodyOf f30) 0) false [(0, (.val Riiii)), (3, .any)] (meet_behind_S0i v) some = (meet_behind_r0 C v).eval fun y => some (meet_behind_S0 y) := by kernel_rfl
abbrev meet_behind_Y1 : Type := Int
def meet_behind_S1 (v : meet_behind_Y1) : St := ⟨[(5, .int .i64 v)], []⟩
def meet_behind_r1 (C : meet_behind_C) (v : meet_behind_Y0) : Dt meet_behind_Y1 := (Dt.bnd (C.1 ((v.1, ()), (v.2.1, v.2.2, ()), (()), ())) fun r1 => (Dt.ret r1.1))
theorem meet_behind_g1 (C : meet_behind_C) (v : meet_behind_Y0) : treg tysT (orc (meet_behind_tab C)) 14 (regO (bodyOf f30) 1) false [(5, .any)] (meet_behind_S0 v) some = (meet_behind_r1 C v).eval fun y => some (meet_behind_S1 y) := by kernel_rfl
abbrev meet_behind_Y2 : Type := Int
def meet_behind_S2 (v : meet_behind_Y2) : St := ⟨[(4, .int .i64 v)], []⟩
def meet_behind_r2 (C : meet_behind_C) (v : meet_behind_Y1) : Dt meet_behind_Y2 := (Dt.ret v)
theorem meet_behind_g2 (C : meet_behind_C) (v : meet_behind_Y1) : treg tysT (orc (meet_behind_tab C)) 14 (regO (bodyOf f30) 2) false [(4, .any)] (meet_behind_S1 v) some = (meet_behind_r2 C v).eval fun y => some (meet_behind_S2 y) := by kernel_rfl
def F_meet_behind (d : Nat) (x : meet_behind_X) : Option meet_behind_R :=
  (meet_behind_r0 (meet_behind_K d) (x.1.1, x.2.1.1, x.2.1.2.1)).eval fun y0 =>
  (meet_behind_r1 (meet_behind_K d) y0).eval fun y1 =>
  (meet_behind_r2 (meet_behind_K d) y1).eval fun y2 =>
  some y2
theorem meet_behind_cok (d : Nat) : COK prog (meet_behind_sp (F_meet_behind d)) := by
  have hm : prog.follows .mixedOrders = true := mixed
  have hT := tys
  have hC0 : OrcOK prog (orc (meet_behind_tab (meet_behind_K d))) := orc_ok (by
    intro S hS
    simp only [meet_behind_tab, List.mem_cons, List.not_mem_nil, or_false] at hS
    subst hS; exact slices_BinarySearchFunc_api_Meeting_api_Meeting_api_Ratio_at_meet_behind_1_cok d)
  have hC : OrcOK prog (orc (meet_behind_tab (meet_behind_K d))) := hC0
  refine cok_of (c := bodyOf f30) (fn := f30) hT (by kernel_rfl) (by kernel_rfl) (by decide) fun x r h w0 φ0 Q hend => ?_
  replace h : F_meet_behind d x = some r := h
  unfold F_meet_behind at h
  show Run prog w0 φ0 14 (bodyOf f30) ⟨[(0, .fz Riiii x.1.1), (1, .agg [.int .i64 x.2.1.1, .int .i64 x.2.1.2.1])], []⟩ Q
  refine run_seq ?_
  refine run_reg hm hT hC (meet_behind_g0 (meet_behind_K d) (x.1.1, x.2.1.1, x.2.1.2.1)) h ?_
  intro y0 h
  refine cn_then ?_
  refine run_seq ?_
  refine run_reg hm hT hC (meet_behind_g1 (meet_behind_K d) y0) h ?_
  intro y1 h
  refine cn_then ?_
  refine run_seq ?_
  refine run_reg hm hT hC (meet_behind_g2 (meet_behind_K d) y1) h ?_
  intro y2 h
  refine cn_then ?_
  refine run_ret ?_
  cases h
  exact (hend _ (by kernel_rfl)).2
abbrev meet_All_ps : List Pk := [.row RLiiiE true, .row Rii true, .row Rii true]
abbrev meet_All_X : Type := DLiiiE × Dii × Dii × Unit
abbrev meet_All_R : Type := List Diiii × Int
def meet_All_enc (r : meet_All_R) : LV × List Ob := (.tup [.fz Riiii r.1, .int .i64 r.2], [])
def meet_All_sp (F : meet_All_X → Option meet_All_R) : Go.Tx.Spec := ⟨11, meet_All_ps, meet_All_R, F, meet_All_enc⟩
abbrev meet_All_C : Type := (meet_check_X → Option meet_check_R) × (meet_all_X → Option meet_all_R) × (meet_behind_X → Option meet_behind_R) × Unit
def meet_All_K (d : Nat) : meet_All_C := (F_meet_check d, F_meet_all d, F_meet_behind d, ())
def meet_All_tab (C : meet_All_C) : List Go.Tx.Spec := [meet_check_sp C.1, meet_all_sp C.2.1, meet_behind_sp C.2.2.1]
abbrev meet_All_Y0i : Type := List Diii × Int × Int × Int × Int
def meet_All_S0i (v : meet_All_Y0i) : St := ⟨[(0, .agg [.fz Riii v.1]), (1, .agg [.int .i64 v.2.1, .int .i64 v.2.2.1]), (2, .agg [.int .i64 v.2.2.2.1, .int .i64 v.2.2.2.2])], []⟩
abbrev meet_All_Y0 : Type := List Diii × Int × Int × Int × Int
def meet_All_S0 (v : meet_All_Y0) : St := ⟨[(3, .ptr 0 0), (4, .ptr 1 0), (5, .ptr 2 0)], [.cells [.fz Riii v.1], .cells [.int .i64 v.2.1, .int .i64 v.2.2.1], .cells [.int .i64 v.2.2.2.1, .int .i64 v.2.2.2.2]]⟩
def meet_All_r0 (C : meet_All_C) (v : meet_All_Y0i) : Dt meet_All_Y0 := (Dt.ret (v.1, v.2.1, v.2.2.1, v.2.2.2.1, v.2.2.2.2))
theorem meet_All_g0 (C : meet_All_C) (v : meet_All_Y0i) : treg tysT (orc (meet_All_tab C)) 33 (regO (bodyOf f11) 0) false [(3, (.box [.val Riii])), (4, .any), (5, .any)] (meet_All_S0i v) some = (meet_All_r0 C v).eval fun y => some (meet_All_S0 y) := by kernel_rfl
abbrev meet_All_Y1 : Type := Int × List Diii × Int × Int × Int × Int
def meet_All_S1 (v : meet_All_Y1) : St := ⟨[(3, .ptr 0 0), (4, .ptr 1 0), (5, .ptr 2 0), (8, .int .i64 v.1)], [.cells [.fz Riii v.2.1], .cells [.int .i64 v.2.2.1, .int .i64 v.2.2.2.1], .cells [.int .i64 v.2.2.2.2.1, .int .i64 v.2.2.2.2.2]]⟩
def meet_All_r1 (C : meet_All_C) (v : meet_All_Y0) : Dt meet_All_Y1 := (Dt.bnd (C.1 ((v.1, ()), (([(v.2.1, v.2.2.1, ()), (v.2.2.2.1, v.2.2.2.2, ())] : List Dii), ()), ())) fun r1 => (Dt.ret (r1, v.1, v.2.1, v.2.2.1, v.2.2.2.1, v.2.2.2.2)))
theorem meet_All_g1 (C : meet_All_C) (v : meet_All_Y0) : treg tysT (orc (meet_All_tab C)) 33 (regO (bodyOf f11) 1) false [(3, (.box [.val Riii])), (4, .any), (5, .any), (8, .any)] (meet_All_S0 v) some = (meet_All_r1 C v).eval fun y => some (meet_All_S1 y) := by kernel_rfl
abbrev meet_All_Y2 : Type := Int × Bool × List Diii × Int × Int × Int × Int
def meet_All_S2 (v : meet_All_Y2) : St := ⟨[(3, .ptr 0 0), (4, .ptr 1 0), (5, .ptr 2 0), (8, .int .i64 v.1), (18, .bool v.2.1)], [.cells [.fz Riii v.2.2.1], .cells [.int .i64 v.2.2.2.1, .int .i64 v.2.2.2.2.1], .cells [.int .i64 v.2.2.2.2.2.1, .int .i64 v.2.2.2.2.2.2]]⟩
def meet_All_r2 (C : meet_All_C) (v : meet_All_Y1) : Dt meet_All_Y2 := (Dt.ret (v.1, (v.1 != (0:Int)), v.2.1, v.2.2.1, v.2.2.2.1, v.2.2.2.2.1, v.2.2.2.2.2))
theorem meet_All_g2 (C : meet_All_C) (v : meet_All_Y1) : treg tysT (orc (meet_All_tab C)) 33 (regO (bodyOf f11) 2) false [(3, (.box [.val Riii])), (4, .any), (5, .any), (8, .any), (18, .any)] (meet_All_S1 v) some = (meet_All_r2 C v).eval fun y => some (meet_All_S2 y) := by kernel_rfl
abbrev meet_All_Y3 : Type := List Diiii × Int
def meet_All_S3 (v : meet_All_Y3) : St := ⟨[(6, .fz Riiii v.1), (7, .int .i64 v.2)], []⟩
def meet_All_r3 (C : meet_All_C) (v : meet_All_Y2) : Dt meet_All_Y3 := (Dt.ret (([] : List Diiii), v.1))
theorem meet_All_g3 (C : meet_All_C) (v : meet_All_Y2) : treg tysT (orc (meet_All_tab C)) 33 (regO (bodyOf f11) 3) false [(6, (.val Riiii)), (7, .any)] (meet_All_S2 v) some = (meet_All_r3 C v).eval fun y => some (meet_All_S3 y) := by kernel_rfl
abbrev meet_All_Y4 : Type := Int × Int × Int × Int × List Diiii
def meet_All_S4 (v : meet_All_Y4) : St := ⟨[(4, .ptr 0 0), (5, .ptr 1 0), (9, .rs 2)], [.cells [.int .i64 v.1, .int .i64 v.2.1], .cells [.int .i64 v.2.2.1, .int .i64 v.2.2.2.1], .rows Riiii v.2.2.2.2]⟩
def meet_All_r4 (C : meet_All_C) (v : meet_All_Y2) : Dt meet_All_Y4 := (Dt.bnd (C.2.1 ((v.2.2.1, ()), ())) fun r1 => (Dt.ret (v.2.2.2.1, v.2.2.2.2.1, v.2.2.2.2.2.1, v.2.2.2.2.2.2, r1)))
theorem meet_All_g4 (C : meet_All_C) (v : meet_All_Y2) : treg tysT (orc (meet_All_tab C)) 33 (regO (bodyOf f11) 4) false [(4, .any), (5, .any), (9, (.own Riiii))] (meet_All_S2 v) some = (meet_All_r4 C v).eval fun y => some (meet_All_S4 y) := by kernel_rfl
abbrev meet_All_Y5 : Type := Int × Int × List Diiii
def meet_All_S5 (v : meet_All_Y5) : St := ⟨[(9, .rs 0), (10, .int .i64 v.1), (11, .int .i64 v.2.1)], [.rows Riiii v.2.2]⟩
def meet_All_r5 (C : meet_All_C) (v : meet_All_Y4) : Dt meet_All_Y5 := (Dt.bnd (C.2.2.1 ((v.2.2.2.2, ()), (v.1, v.2.1, ()), ())) fun r1 => (Dt.bnd (C.2.2.1 ((v.2.2.2.2, ()), (v.2.2.1, v.2.2.2.1, ()), ())) fun r2 => (Dt.ret (r1, r2, v.2.2.2.2))))
theorem meet_All_g5 (C : meet_All_C) (v : meet_All_Y4) : treg tysT (orc (meet_All_tab C)) 33 (regO (bodyOf f11) 5) true [(9, (.own Riiii)), (10, .any), (11, .any)] (meet_All_S4 v) some = (meet_All_r5 C v).eval fun y => some (meet_All_S5 y) := by kernel_rfl
def meet_All_r6 (C : meet_All_C) (v : meet_All_Y5) : Dt meet_All_Y3 := (Dt.ite (cut3B v.1 v.2.1 v.2.1 (List.length v.2.2)) (Dt.ret ((List.drop (v.1).toNat (List.take (v.2.1).toNat v.2.2)), (0:Int))) Dt.fail)
theorem meet_All_g6 (C : meet_All_C) (v : meet_All_Y5) : treg tysT (orc (meet_All_tab C)) 33 (regO (bodyOf f11) 6) false [(6, (.val Riiii)), (7, .any)] (meet_All_S5 v) some = (meet_All_r6 C v).eval fun y => some (meet_All_S3 y) := by kernel_rfl
def F_meet_All (d : Nat) (x : meet_All_X) : Option meet_All_R :=
  (meet_All_r0 (meet_All_K d) (x.1.1, x.2.1.1, x.2.1.2.1, x.2.2.1.1, x.2.2.1.2.1)).eval fun y0 =>
  (meet_All_r1 (meet_All_K d) y0).eval fun y1 =>
  (meet_All_r2 (meet_All_K d) y1).eval fun y2 =>
  bif y2.2.1 then ((meet_All_r3 (meet_All_K d) y2).eval fun y3 =>
  some y3) else ((meet_All_r4 (meet_All_K d) y2).eval fun y4 =>
  (meet_All_r5 (meet_All_K d) y4).eval fun y5 =>
  (meet_All_r6 (meet_All_K d) y5).eval fun y6 =>
  some y6)
theorem meet_All_cok (d : Nat) : COK prog (meet_All_sp (F_meet_All d)) := by
  have hm : prog.follows .mixedOrders = true := mixed
  have hT := tys
  have hC0 : OrcOK prog (orc (meet_All_tab (meet_All_K d))) := orc_ok (by
    intro S hS
    simp only [meet_All_tab, List.mem_cons, List.not_mem_nil, or_false] at hS
    rcases hS with rfl | rfl | rfl
    · exact meet_check_cok d
    · exact meet_all_cok d
    · exact meet_behind_cok d)
  have hC : OrcOK prog (orc (meet_All_tab (meet_All_K d))) := hC0
  refine cok_of (c := bodyOf f11) (fn := f11) hT (by kernel_rfl) (by kernel_rfl) (by decide) fun x r h w0 φ0 Q hend => ?_
  replace h : F_meet_All d x = some r := h
  unfold F_meet_All at h
  show Run prog w0 φ0 33 (bodyOf f11) ⟨[(0, .agg [.fz Riii x.1.1]), (1, .agg [.int .i64 x.2.1.1, .int .i64 x.2.1.2.1]), (2, .agg [.int .i64 x.2.2.1.1, .int .i64 x.2.2.1.2.1])], []⟩ Q
  refine run_seq ?_
  refine run_reg hm hT hC (meet_All_g0 (meet_All_K d) (x.1.1, x.2.1.1, x.2.1.2.1, x.2.2.1.1, x.2.2.1.2.1)) h ?_
  intro y0 h
  refine cn_then ?_
  refine run_seq ?_
  refine run_seq ?_
  refine run_reg hm hT hC (meet_All_g1 (meet_All_K d) y0) h ?_
  intro y1 h
  refine cn_then ?_
  refine run_seq ?_
  refine run_reg hm hT hC (meet_All_g2 (meet_All_K d) y1) h ?_
  intro y2 h
  refine cn_then ?_
  refine run_cond (v := y2.2.1) (by kernel_rfl) h ?_ ?_
  ·
    intro h
    refine run_seq ?_
    refine run_reg hm hT hC (meet_All_g3 (meet_All_K d) y2) h ?_
    intro y3 h
    refine cn_then ?_
    refine run_ret ?_
    refine cn_then_ret ?_
    cases h
    exact (hend _ (by kernel_rfl)).2
  ·
    intro h
    refine run_skip ?_
    refine cn_then ?_
    refine run_seq ?_
    refine run_reg hm hT hC (meet_All_g4 (meet_All_K d) y2) h ?_
    intro y4 h
    refine cn_then ?_
    refine run_seq ?_
    refine run_reg hm hT hC (meet_All_g5 (meet_All_K d) y4) h ?_
    intro y5 h
    refine cn_then ?_
    refine run_seq ?_
    refine run_reg hm hT hC (meet_All_g6 (meet_All_K d) y5) h ?_
    intro y6 h
    refine cn_then ?_
    refine run_ret ?_
    cases h
    exact (hend _ (by kernel_rfl)).2
end Go.Proofs.YtmagihjfbembjaaGreat

namespace Go.Proofs.YtmagihjfbembjaaGreat
open Go Go.Tx Go.Proofs.Tryz
set_option maxRecDepth 100000
set_option maxHeartbeats 0
abbrev ref01_Sign_ps : List Pk := [.row Rbuu true]
abbrev ref01_Sign_X : Type := Dbuu × Unit
abbrev ref01_Sign_R : Type := Int
def ref01_Sign_enc (r : ref01_Sign_R) : LV × List Ob := (.int .i64 r, [])
def ref01_Sign_sp (F : ref01_Sign_X → Option ref01_Sign_R) : Go.Tx.Spec := ⟨26, ref01_Sign_ps, ref01_Sign_R, F, ref01_Sign_enc⟩
abbrev ref01_Sign_C : Type := Unit
def ref01_Sign_K (_d : Nat) : ref01_Sign_C := ()
def ref01_Sign_tab (C : ref01_Sign_C) : List Go.Tx.Spec := []
abbrev ref01_Sign_Y0i : Type := Bool × Int × Int
def ref01_Sign_S0i (v : ref01_Sign_Y0i) : St := ⟨[(0, .agg [.bool v.1, .int .u64 v.2.1, .int .u64 v.2.2])], []⟩
abbrev ref01_Sign_Y0 : Type := Bool × Int × Int
def ref01_Sign_S0 (v : ref01_Sign_Y0) : St := ⟨[(1, .ptr 0 0)], [.cells [.bool v.1, .int .u64 v.2.1, .int .u64 v.2.2]]⟩
def ref01_Sign_r0 (C : ref01_Sign_C) (v : ref01_Sign_Y0i) : Dt ref01_Sign_Y0 := (Dt.ret (v.1, v.2.1, v.2.2))
theorem ref01_Sign_g0 (C : ref01_Sign_C) (v : ref01_Sign_Y0i) : treg tysT (orc (ref01_Sign_tab C)) 13 (regO (bodyOf f26) 0) false [(1, .any)] (ref01_Sign_S0i v) some = (ref01_Sign_r0 C v).eval fun y => some (ref01_Sign_S0 y) := by kernel_rfl
abbrev ref01_Sign_Y1 : Type := Bool × Bool × Int × Int
def ref01_Sign_S1 (v : ref01_Sign_Y1) : St := ⟨[(1, .ptr 0 0), (10, .bool v.1)], [.cells [.bool v.2.1, .int .u64 v.2.2.1, .int .u64 v.2.2.2]]⟩
def ref01_Sign_r1 (C : ref01_Sign_C) (v : ref01_Sign_Y0) : Dt ref01_Sign_Y1 := (Dt.ite (v.2.1 == (0:Int)) (Dt.ret ((v.2.2 == (0:Int)), v.1, v.2.1, v.2.2)) (Dt.ret (false, v.1, v.2.1, v.2.2)))
theorem ref01_Sign_g1 (C : ref01_Sign_C) (v : ref01_Sign_Y0) : treg tysT (orc (ref01_Sign_tab C)) 13 (regO (bodyOf f26) 1) false [(1, .any), (10, .any)] (ref01_Sign_S0 v) some = (ref01_Sign_r1 C v).eval fun y => some (ref01_Sign_S1 y) := by kernel_rfl
abbrev ref01_Sign_Y2 : Type := Int
def ref01_Sign_S2 (v : ref01_Sign_Y2) : St := ⟨[(2, .int .i64 v)], []⟩
def ref01_Sign_r2 (C : ref01_Sign_C) (v : ref01_Sign_Y1) : Dt ref01_Sign_Y2 := (Dt.ret (0:Int))
theorem ref01_Sign_g2 (C : ref01_Sign_C) (v : ref01_Sign_Y1) : treg tysT (orc (ref01_Sign_tab C)) 13 (regO (bodyOf f26) 2) false [(2, .any)] (ref01_Sign_S1 v) some = (ref01_Sign_r2 C v).eval fun y => some (ref01_Sign_S2 y) := by kernel_rfl
abbrev ref01_Sign_Y3 : Type := Bool
def ref01_Sign_S3 (v : ref01_Sign_Y3) : St := ⟨[(12, .bool v)], []⟩
def ref01_Sign_r3 (C : ref01_Sign_C) (v : ref01_Sign_Y1) : Dt ref01_Sign_Y3 := (Dt.ret v.2.1)
theorem ref01_Sign_g3 (C : ref01_Sign_C) (v : ref01_Sign_Y1) : treg tysT (orc (ref01_Sign_tab C)) 13 (regO (bodyOf f26) 3) false [(12, .any)] (ref01_Sign_S1 v) some = (ref01_Sign_r3 C v).eval fun y => some (ref01_Sign_S3 y) := by kernel_rfl
def ref01_Sign_r4 (C : ref01_Sign_C) (v : ref01_Sign_Y3) : Dt ref01_Sign_Y2 := (Dt.ret (-1:Int))
theorem ref01_Sign_g4 (C : ref01_Sign_C) (v : ref01_Sign_Y3) : treg tysT (orc (ref01_Sign_tab C)) 13 (regO (bodyOf f26) 4) false [(2, .any)] (ref01_Sign_S3 v) some = (ref01_Sign_r4 C v).eval fun y => some (ref01_Sign_S2 y) := by kernel_rfl
def ref01_Sign_r5 (C : ref01_Sign_C) (v : ref01_Sign_Y3) : Dt ref01_Sign_Y2 := (Dt.ret (1:Int))
theorem ref01_Sign_g5 (C : ref01_Sign_C) (v : ref01_Sign_Y3) : treg tysT (orc (ref01_Sign_tab C)) 13 (regO (bodyOf f26) 5) false [(2, .any)] (ref01_Sign_S3 v) some = (ref01_Sign_r5 C v).eval fun y => some (ref01_Sign_S2 y) := by kernel_rfl
def F_ref01_Sign (d : Nat) (x : ref01_Sign_X) : Option ref01_Sign_R :=
  (ref01_Sign_r0 (ref01_Sign_K d) (x.1.1, x.1.2.1, x.1.2.2.1)).eval fun y0 =>
  (ref01_Sign_r1 (ref01_Sign_K d) y0).eval fun y1 =>
  bif y1.1 then ((ref01_Sign_r2 (ref01_Sign_K d) y1).eval fun y2 =>
  some y2) else ((ref01_Sign_r3 (ref01_Sign_K d) y1).eval fun y3 =>
  bif y3 then ((ref01_Sign_r4 (ref01_Sign_K d) y3).eval fun y4 =>
  some y4) else ((ref01_Sign_r5 (ref01_Sign_K d) y3).eval fun y5 =>
  some y5))
theorem ref01_Sign_cok (d : Nat) : COK prog (ref01_Sign_sp (F_ref01_Sign d)) := by
  have hm : prog.follows .mixedOrders = true := mixed
  have hT := tys
  have hC0 : OrcOK prog (orc (ref01_Sign_tab (ref01_Sign_K d))) := orc_ok (by
    intro S hS
    simp only [ref01_Sign_tab, List.mem_cons, List.not_mem_nil, or_false] at hS
    all_goals first | cases hS | exact hS.elim)
  have hC : OrcOK prog (orc (ref01_Sign_tab (ref01_Sign_K d))) := hC0
  refine cok_of (c := bodyOf f26) (fn := f26) hT (by kernel_rfl) (by kernel_rfl) (by decide) fun x r h w0 φ0 Q hend => ?_
  replace h : F_ref01_Sign d x = some r := h
  unfold F_ref01_Sign at h
  show Run prog w0 φ0 13 (bodyOf f26) ⟨[(0, .agg [.bool x.1.1, .int .u64 x.1.2.1, .int .u64 x.1.2.2.1])], []⟩ Q
  refine run_seq ?_
  refine run_reg hm hT hC (ref01_Sign_g0 (ref01_Sign_K d) (x.1.1, x.1.2.1, x.1.2.2.1)) h ?_
  intro y0 h
  refine cn_then ?_
  refine run_seq ?_
  refine run_seq ?_
  refine run_reg hm hT hC (ref01_Sign_g1 (ref01_Sign_K d) y0) h ?_
  intro y1 h
  refine cn_then ?_
  refine run_cond (v := y1.1) (by kernel_rfl) h ?_ ?_
  ·
    intro h
    refine run_seq ?_
    refine run_reg hm hT hC (ref01_Sign_g2 (ref01_Sign_K d) y1) h ?_
    intro y2 h
    refine cn_then ?_
    refine run_ret ?_
    refine cn_then_ret ?_
    cases h
    exact (hend _ (by kernel_rfl)).2
  ·
    intro h
    refine run_skip ?_
    refine cn_then ?_
    refine run_seq ?_
    refine run_seq ?_
    refine run_reg hm hT hC (ref01_Sign_g3 (ref01_Sign_K d) y1) h ?_
    intro y3 h
    refine cn_then ?_
    refine run_cond (v := y3) (by kernel_rfl) h ?_ ?_
    ·
      intro h
      refine run_seq ?_
      refine run_reg hm hT hC (ref01_Sign_g4 (ref01_Sign_K d) y3) h ?_
      intro y4 h
      refine cn_then ?_
      refine run_ret ?_
      refine cn_then_ret ?_
      cases h
      exact (hend _ (by kernel_rfl)).2
    ·
      intro h
      refine run_skip ?_
      refine cn_then ?_
      refine run_seq ?_
      refine run_reg hm hT hC (ref01_Sign_g5 (ref01_Sign_K d) y3) h ?_
      intro y5 h
      refine cn_then ?_
      refine run_ret ?_
      cases h
      exact (hend _ (by kernel_rfl)).2
abbrev ref01_less_ps : List Pk := [.row Rbuu true, .row Rbuu true]
abbrev ref01_less_X : Type := Dbuu × Dbuu × Unit
abbrev ref01_less_R : Type := Int
def ref01_less_enc (r : ref01_less_R) : LV × List Ob := (.int .i64 r, [])
def ref01_less_sp (F : ref01_less_X → Option ref01_less_R) : Go.Tx.Spec := ⟨27, ref01_less_ps, ref01_less_R, F, ref01_less_enc⟩
abbrev ref01_less_C : Type := Unit
def ref01_less_K (_d : Nat) : ref01_less_C := ()
def ref01_less_tab (C : ref01_less_C) : List Go.Tx.Spec := []
abbrev ref01_less_Y0i : Type := Bool × Int × Int × Bool × Int × Int
def ref01_less_S0i (v : ref01_less_Y0i) : St := ⟨[(0, .agg [.bool v.1, .int .u64 v.2.1, .int .u64 v.2.2.1]), (1, .agg [.bool v.2.2.2.1, .int .u64 v.2.2.2.2.1, .int .u64 v.2.2.2.2.2])], []⟩
abbrev ref01_less_Y0 : Type := Bool × Int × Int × Bool × Int × Int
def ref01_less_S0 (v : ref01_less_Y0) : St := ⟨[(2, .ptr 0 0), (3, .ptr 1 0)], [.cells [.bool v.1, .int .u64 v.2.1, .int .u64 v.2.2.1], .cells [.bool v.2.2.2.1, .int .u64 v.2.2.2.2.1, .int .u64 v.2.2.2.2.2]]⟩
def ref01_less_r0 (C : ref01_less_C) (v : ref01_less_Y0i) : Dt ref01_less_Y0 := (Dt.ret (v.1, v.2.1, v.2.2.1, v.2.2.2.1, v.2.2.2.2.1, v.2.2.2.2.2))
theorem ref01_less_g0 (C : ref01_less_C) (v : ref01_less_Y0i) : treg tysT (orc (ref01_less_tab C)) 25 (regO (bodyOf f27) 0) false [(2, .any), (3, .any)] (ref01_less_S0i v) some = (ref01_less_r0 C v).eval fun y => some (ref01_less_S0 y) := by kernel_rfl
abbrev ref01_less_Y1 : Type := Bool × Bool × Int × Int × Bool × Int × Int
def ref01_less_S1 (v : ref01_less_Y1) : St := ⟨[(2, .ptr 0 0), (3, .ptr 1 0), (9, .bool v.1)], [.cells [.bool v.2.1, .int .u64 v.2.2.1, .int .u64 v.2.2.2.1], .cells [.bool v.2.2.2.2.1, .int .u64 v.2.2.2.2.2.1, .int .u64 v.2.2.2.2.2.2]]⟩
def ref01_less_r1 (C : ref01_less_C) (v : ref01_less_Y0) : Dt ref01_less_Y1 := (Dt.ret ((v.2.1 != v.2.2.2.2.1), v.1, v.2.1, v.2.2.1, v.2.2.2.1, v.2.2.2.2.1, v.2.2.2.2.2))
theorem ref01_less_g1 (C : ref01_less_C) (v : ref01_less_Y0) : treg tysT (orc (ref01_less_tab C)) 25 (regO (bodyOf f27) 1) false [(2, .any), (3, .any), (9, .any)] (ref01_less_S0 v) some = (ref01_less_r1 C v).eval fun y => some (ref01_less_S1 y) := by kernel_rfl
abbrev ref01_less_Y2 : Type := Bool
def ref01_less_S2 (v : ref01_less_Y2) : St := ⟨[(14, .bool v)], []⟩
def ref01_less_r2 (C : ref01_less_C) (v : ref01_less_Y1) : Dt ref01_less_Y2 := (Dt.ret (decide (v.2.2.1 < v.2.2.2.2.2.1)))
theorem ref01_less_g2 (C : ref01_less_C) (v : ref01_less_Y1) : treg tysT (orc (ref01_less_tab C)) 25 (regO (bodyOf f27) 2) false [(14, .any)] (ref01_less_S1 v) some = (ref01_less_r2 C v).eval fun y => some (ref01_less_S2 y) := by kernel_rfl
abbrev ref01_less_Y3 : Type := Int
def ref01_less_S3 (v : ref01_less_Y3) : St := ⟨[(4, .int .i64 v)], []⟩
def ref01_less_r3 (C : ref01_less_C) (v : ref01_less_Y2) : Dt ref01_less_Y3 := (Dt.ret (-1:Int))
theorem ref01_less_g3 (C : ref01_less_C) (v : ref01_less_Y2) : treg tysT (orc (ref01_less_tab C)) 25 (regO (bodyOf f27) 3) false [(4, .any)] (ref01_less_S2 v) some = (ref01_less_r3 C v).eval fun y => some (ref01_less_S3 y) := by kernel_rfl
def ref01_less_r4 (C : ref01_less_C) (v : ref01_less_Y2) : Dt ref01_less_Y3 := (Dt.ret (1:Int))
theorem ref01_less_g4 (C : ref01_less_C) (v : ref01_less_Y2) : treg tysT (orc (ref01_less_tab C)) 25 (regO (bodyOf f27) 4) false [(4, .any)] (ref01_less_S2 v) some = (ref01_less_r4 C v).eval fun y => some (ref01_less_S3 y) := by kernel_rfl
abbrev ref01_less_Y5 : Type := Bool × Bool × Int × Int × Bool × Int × Int
def ref01_less_S5 (v : ref01_less_Y5) : St := ⟨[(2, .ptr 0 0), (3, .ptr 1 0), (19, .bool v.1)], [.cells [.bool v.2.1, .int .u64 v.2.2.1, .int .u64 v.2.2.2.1], .cells [.bool v.2.2.2.2.1, .int .u64 v.2.2.2.2.2.1, .int .u64 v.2.2.2.2.2.2]]⟩
def ref01_less_r5 (C : ref01_less_C) (v : ref01_less_Y1) : Dt ref01_less_Y5 := (Dt.ret ((v.2.2.2.1 != v.2.2.2.2.2.2), v.2.1, v.2.2.1, v.2.2.2.1, v.2.2.2.2.1, v.2.2.2.2.2.1, v.2.2.2.2.2.2))
theorem ref01_less_g5 (C : ref01_less_C) (v : ref01_less_Y1) : treg tysT (orc (ref01_less_tab C)) 25 (regO (bodyOf f27) 5) false [(2, .any), (3, .any), (19, .any)] (ref01_less_S1 v) some = (ref01_less_r5 C v).eval fun y => some (ref01_less_S5 y) := by kernel_rfl
abbrev ref01_less_Y6 : Type := Bool
def ref01_less_S6 (v : ref01_less_Y6) : St := ⟨[(24, .bool v)], []⟩
def ref01_less_r6 (C : ref01_less_C) (v : ref01_less_Y5) : Dt ref01_less_Y6 := (Dt.ret (decide (v.2.2.2.1 < v.2.2.2.2.2.2)))
theorem ref01_less_g6 (C : ref01_less_C) (v : ref01_less_Y5) : treg tysT (orc (ref01_less_tab C)) 25 (regO (bodyOf f27) 6) false [(24, .any)] (ref01_less_S5 v) some = (ref01_less_r6 C v).eval fun y => some (ref01_less_S6 y) := by kernel_rfl
def ref01_less_r7 (C : ref01_less_C) (v : ref01_less_Y6) : Dt ref01_less_Y3 := (Dt.ret (-1:Int))
theorem ref01_less_g7 (C : ref01_less_C) (v : ref01_less_Y6) : treg tysT (orc (ref01_less_tab C)) 25 (regO (bodyOf f27) 7) false [(4, .any)] (ref01_less_S6 v) some = (ref01_less_r7 C v).eval fun y => some (ref01_less_S3 y) := by kernel_rfl
def ref01_less_r8 (C : ref01_less_C) (v : ref01_less_Y6) : Dt ref01_less_Y3 := (Dt.ret (1:Int))
theorem ref01_less_g8 (C : ref01_less_C) (v : ref01_less_Y6) : treg tysT (orc (ref01_less_tab C)) 25 (regO (bodyOf f27) 8) false [(4, .any)] (ref01_less_S6 v) some = (ref01_less_r8 C v).eval fun y => some (ref01_less_S3 y) := by kernel_rfl
def ref01_less_r9 (C : ref01_less_C) (v : ref01_less_Y5) : Dt ref01_less_Y3 := (Dt.ret (0:Int))
theorem ref01_less_g9 (C : ref01_less_C) (v : ref01_less_Y5) : treg tysT (orc (ref01_less_tab C)) 25 (regO (bodyOf f27) 9) false [(4, .any)] (ref01_less_S5 v) some = (ref01_less_r9 C v).eval fun y => some (ref01_less_S3 y) := by kernel_rfl
def F_ref01_less (d : Nat) (x : ref01_less_X) : Option ref01_less_R :=
  (ref01_less_r0 (ref01_less_K d) (x.1.1, x.1.2.1, x.1.2.2.1, x.2.1.1, x.2.1.2.1, x.2.1.2.2.1)).eval fun y0 =>
  (ref01_less_r1 (ref01_less_K d) y0).eval fun y1 =>
  bif y1.1 then ((ref01_less_r2 (ref01_less_K d) y1).eval fun y2 =>
  bif y2 then ((ref01_less_r3 (ref01_less_K d) y2).eval fun y3 =>
  some y3) else ((ref01_less_r4 (ref01_less_K d) y2).eval fun y4 =>
  some y4)) else ((ref01_less_r5 (ref01_less_K d) y1).eval fun y5 =>
  bif y5.1 then ((ref01_less_r6 (ref01_less_K d) y5).eval fun y6 =>
  bif y6 then ((ref01_less_r7 (ref01_less_K d) y6).eval fun y7 =>
  some y7) else ((ref01_less_r8 (ref01_less_K d) y6).eval fun y8 =>
  some y8)) else ((ref01_less_r9 (ref01_less_K d) y5).eval fun y9 =>
  some y9))
theorem ref01_less_cok (d : Nat) : COK prog (ref01_less_sp (F_ref01_less d)) := by
  have hm : prog.follows .mixedOrders = true := mixed
  have hT := tys
  have hC0 : OrcOK prog (orc (ref01_less_tab (ref01_less_K d))) := orc_ok (by
    intro S hS
    simp only [ref01_less_tab, List.mem_cons, List.not_mem_nil, or_false] at hS
    all_goals first | cases hS | exact hS.elim)
  have hC : OrcOK prog (orc (ref01_less_tab (ref01_less_K d))) := hC0
  refine cok_of (c := bodyOf f27) (fn := f27) hT (by kernel_rfl) (by kernel_rfl) (by decide) fun x r h w0 φ0 Q hend => ?_
  replace h : F_ref01_less d x = some r := h
  unfold F_ref01_less at h
  show Run prog w0 φ0 25 (bodyOf f27) ⟨[(0, .agg [.bool x.1.1, .int .u64 x.1.2.1, .int .u64 x.1.2.2.1]), (1, .agg [.bool x.2.1.1, .int .u64 x.2.1.2.1, .int .u64 x.2.1.2.2.1])], []⟩ Q
  refine run_seq ?_
  refine run_reg hm hT hC (ref01_less_g0 (ref01_less_K d) (x.1.1, x.1.2.1, x.1.2.2.1, x.2.1.1, x.2.1.2.1, x.2.1.2.2.1)) h ?_
  intro y0 h
  refine cn_then ?_
  refine run_seq ?_
  refine run_seq ?_
  refine run_reg hm hT hC (ref01_less_g1 (ref01_less_K d) y0) h ?_
  intro y1 h
  refine cn_then ?_
  refine run_cond (v := y1.1) (by kernel_rfl) h ?_ ?_
  ·
    intro h
    refine run_seq ?_
    refine run_seq ?_
    refine run_reg hm hT hC (ref01_less_g2 (ref01_less_K d) y1) h ?_
    intro y2 h
    refine cn_then ?_
    refine run_cond (v := y2) (by kernel_rfl) h ?_ ?_
    ·
      intro h
      refine run_seq ?_
      refine run_reg hm hT hC (ref01_less_g3 (ref01_less_K d) y2) h ?_
      intro y3 h
      refine cn_then ?_
      refine run_ret ?_
      refine cn_then_ret ?_
      refine cn_then_ret ?_
      cases h
      exact (hend _ (by kernel_rfl)).2
    ·
      intro h
      refine run_skip ?_
      refine cn_then ?_
      refine run_seq ?_
      refine run_reg hm hT hC (ref01_less_g4 (ref01_less_K d) y2) h ?_
      intro y4 h
      refine cn_then ?_
      refine run_ret ?_
      refine cn_then_ret ?_
      cases h
      exact (hend _ (by kernel_rfl)).2
  ·
    intro h
    refine run_skip ?_
    refine cn_then ?_
    refine run_seq ?_
    refine run_seq ?_
    refine run_reg hm hT hC (ref01_less_g5 (ref01_less_K d) y1) h ?_
    intro y5 h
    refine cn_then ?_
    refine run_cond (v := y5.1) (by kernel_rfl) h ?_ ?_
    ·
      intro h
      refine run_seq ?_
      refine run_seq ?_
      refine run_reg hm hT hC (ref01_less_g6 (ref01_less_K d) y5) h ?_
      intro y6 h
      refine cn_then ?_
      refine run_cond (v := y6) (by kernel_rfl) h ?_ ?_
      ·
        intro h
        refine run_seq ?_
        refine run_reg hm hT hC (ref01_less_g7 (ref01_less_K d) y6) h ?_
        intro y7 h
        refine cn_then ?_
        refine run_ret ?_
        refine cn_then_ret ?_
        refine cn_then_ret ?_
        cases h
        exact (hend _ (by kernel_rfl)).2
      ·
        intro h
        refine run_skip ?_
        refine cn_then ?_
        refine run_seq ?_
        refine run_reg hm hT hC (ref01_less_g8 (ref01_less_K d) y6) h ?_
        intro y8 h
        refine cn_then ?_
        refine run_ret ?_
        refine cn_then_ret ?_
        cases h
        exact (hend _ (by kernel_rfl)).2
    ·
      intro h
      refine run_skip ?_
      refine cn_then ?_
      refine run_seq ?_
      refine run_reg hm hT hC (ref01_less_g9 (ref01_less_K d) y5) h ?_
      intro y9 h
      refine cn_then ?_
      refine run_ret ?_
      cases h
      exact (hend _ (by kernel_rfl)).2
abbrev ref01_Compare_ps : List Pk := [.row Rii true, .row Rii true]
abbrev ref01_Compare_X : Type := Dii × Dii × Unit
abbrev ref01_Compare_R : Type := Int
def ref01_Compare_enc (r : ref01_Compare_R) : LV × List Ob := (.int .i64 r, [])
def ref01_Compare_sp (F : ref01_Compare_X → Option ref01_Compare_R) : Go.Tx.Spec := ⟨8, ref01_Compare_ps, ref01_Compare_R, F, ref01_Compare_enc⟩
abbrev ref01_Compare_C : Type := (ref01_Product_X → Option ref01_Product_R) × (ref01_Sign_X → Option ref01_Sign_R) × (ref01_less_X → Option ref01_less_R) × Unit
def ref01_Compare_K (d : Nat) : ref01_Compare_C := (F_ref01_Product d, F_ref01_Sign d, F_ref01_less d, ())
def ref01_Compare_tab (C : ref01_Compare_C) : List Go.Tx.Spec := [ref01_Product_sp C.1, ref01_Sign_sp C.2.1, ref01_less_sp C.2.2.1]
abbrev ref01_Compare_Y0i : Type := Int × Int × Int × Int
def ref01_Compare_S0i (v : ref01_Compare_Y0i) : St := ⟨[(0, .agg [.int .i64 v.1, .int .i64 v.2.1]), (1, .agg [.int .i64 v.2.2.1, .int .i64 v.2.2.2])], []⟩
abbrev ref01_Compare_Y0 : Type := Int × Int × Int × Int
def ref01_Compare_S0 (v : ref01_Compare_Y0) : St := ⟨[(2, .ptr 0 0), (3, .ptr 1 0)], [.cells [.int .i64 v.1, .int .i64 v.2.1], .cells [.int .i64 v.2.2.1, .int .i64 v.2.2.2]]⟩
def ref01_Compare_r0 (C : ref01_Compare_C) (v : ref01_Compare_Y0i) : Dt ref01_Compare_Y0 := (Dt.ret (v.1, v.2.1, v.2.2.1, v.2.2.2))
theorem ref01_Compare_g0 (C : ref01_Compare_C) (v : ref01_Compare_Y0i) : treg tysT (orc (ref01_Compare_tab C)) 36 (regO (bodyOf f8) 0) false [(2, .any), (3, .any)] (ref01_Compare_S0i v) some = (ref01_Compare_r0 C v).eval fun y => some (ref01_Compare_S0 y) := by kernel_rfl
abbrev ref01_Compare_Y1 : Type := Bool × Int × Int × Bool × Int × Int
def ref01_Compare_S1 (v : ref01_Compare_Y1) : St := ⟨[(5, .ptr 0 0), (6, .ptr 1 0)], [.cells [.bool v.1, .int .u64 v.2.1, .int .u64 v.2.2.1], .cells [.bool v.2.2.2.1, .int .u64 v.2.2.2.2.1, .int .u64 v.2.2.2.2.2]]⟩
def ref01_Compare_r1 (C : ref01_Compare_C) (v : ref01_Compare_Y0) : Dt ref01_Compare_Y1 := (Dt.bnd (C.1 ((v.1, ()), (v.2.2.2, ()), ())) fun r1 => (Dt.bnd (C.1 ((v.2.2.1, ()), (v.2.1, ()), ())) fun r2 => (Dt.ret (r1.1, r1.2.1, r1.2.2, r2.1, r2.2.1, r2.2.2))))
theorem ref01_Compare_g1 (C : ref01_Compare_C) (v : ref01_Compare_Y0) : treg tysT (orc (ref01_Compare_tab C)) 36 (regO (bodyOf f8) 1) true [(5, .any), (6, .any)] (ref01_Compare_S0 v) some = (ref01_Compare_r1 C v).eval fun y => some (ref01_Compare_S1 y) := by kernel_rfl
abbrev ref01_Compare_Y2 : Type := Bool × Bool × Int × Int × Bool × Int × Int
def ref01_Compare_S2 (v : ref01_Compare_Y2) : St := ⟨[(5, .ptr 0 0), (6, .ptr 1 0), (21, .bool v.1)], [.cells [.bool v.2.1, .int .u64 v.2.2.1, .int .u64 v.2.2.2.1], .cells [.bool v.2.2.2.2.1, .int .u64 v.2.2.2.2.2.1, .int .u64 v.2.2.2.2.2.2]]⟩
def ref01_Compare_r2 (C : ref01_Compare_C) (v : ref01_Compare_Y1) : Dt ref01_Compare_Y2 := (Dt.bnd (C.2.1 ((v.1, v.2.1, v.2.2.1, ()), ())) fun r1 => (Dt.bnd (C.2.1 ((v.2.2.2.1, v.2.2.2.2.1, v.2.2.2.2.2, ()), ())) fun r2 => (Dt.ret ((r1 != r2), v.1, v.2.1, v.2.2.1, v.2.2.2.1, v.2.2.2.2.1, v.2.2.2.2.2))))
theorem ref01_Compare_g2 (C : ref01_Compare_C) (v : ref01_Compare_Y1) : treg tysT (orc (ref01_Compare_tab C)) 36 (regO (bodyOf f8) 2) true [(5, .any), (6, .any), (21, .any)] (ref01_Compare_S1 v) some = (ref01_Compare_r2 C v).eval fun y => some (ref01_Compare_S2 y) := by kernel_rfl
abbrev ref01_Compare_Y3 : Type := Bool
def ref01_Compare_S3 (v : ref01_Compare_Y3) : St := ⟨[(26, .bool v)], []⟩
def ref01_Compare_r3 (C : ref01_Compare_C) (v : ref01_Compare_Y2) : Dt ref01_Compare_Y3 := (Dt.bnd (C.2.1 ((v.2.1, v.2.2.1, v.2.2.2.1, ()), ())) fun r1 => (Dt.bnd (C.2.1 ((v.2.2.2.2.1, v.2.2.2.2.2.1, v.2.2.2.2.2.2, ()), ())) fun r2 => (Dt.ret (decide (r1 < r2)))))
theorem ref01_Compare_g3 (C : ref01_Compare_C) (v : ref01_Compare_Y2) : treg tysT (orc (ref01_Compare_tab C)) 36 (regO (bodyOf f8) 3) true [(26, .any)] (ref01_Compare_S2 v) some = (ref01_Compare_r3 C v).eval fun y => some (ref01_Compare_S3 y) := by kernel_rfl
abbrev ref01_Compare_Y4 : Type := Int
def ref01_Compare_S4 (v : ref01_Compare_Y4) : St := ⟨[(4, .int .i64 v)], []⟩
def ref01_Compare_r4 (C : ref01_Compare_C) (v : ref01_Compare_Y3) : Dt ref01_Compare_Y4 := (Dt.ret (-1:Int))
theorem ref01_Compare_g4 (C : ref01_Compare_C) (v : ref01_Compare_Y3) : treg tysT (orc (ref01_Compare_tab C)) 36 (regO (bodyOf f8) 4) false [(4, .any)] (ref01_Compare_S3 v) some = (ref01_Compare_r4 C v).eval fun y => some (ref01_Compare_S4 y) := by kernel_rfl
def ref01_Compare_r5 (C : ref01_Compare_C) (v : ref01_Compare_Y3) : Dt ref01_Compare_Y4 := (Dt.ret (1:Int))
theorem ref01_Compare_g5 (C : ref01_Compare_C) (v : ref01_Compare_Y3) : treg tysT (orc (ref01_Compare_tab C)) 36 (regO (bodyOf f8) 5) false [(4, .any)] (ref01_Compare_S3 v) some = (ref01_Compare_r5 C v).eval fun y => some (ref01_Compare_S4 y) := by kernel_rfl
abbrev ref01_Compare_Y6 : Type := Bool × Bool × Int × Int × Bool × Int × Int
def ref01_Compare_S6 (v : ref01_Compare_Y6) : St := ⟨[(5, .ptr 0 0), (6, .ptr 1 0), (29, .bool v.1)], [.cells [.bool v.2.1, .int .u64 v.2.2.1, .int .u64 v.2.2.2.1], .cells [.bool v.2.2.2.2.1, .int .u64 v.2.2.2.2.2.1, .int .u64 v.2.2.2.2.2.2]]⟩
def ref01_Compare_r6 (C : ref01_Compare_C) (v : ref01_Compare_Y2) : Dt ref01_Compare_Y6 := (Dt.bnd (C.2.1 ((v.2.1, v.2.2.1, v.2.2.2.1, ()), ())) fun r1 => (Dt.ret ((decide (r1 < (0:Int))), v.2.1, v.2.2.1, v.2.2.2.1, v.2.2.2.2.1, v.2.2.2.2.2.1, v.2.2.2.2.2.2)))
theorem ref01_Compare_g6 (C : ref01_Compare_C) (v : ref01_Compare_Y2) : treg tysT (orc (ref01_Compare_tab C)) 36 (regO (bodyOf f8) 6) false [(5, .any), (6, .any), (29, .any)] (ref01_Compare_S2 v) some = (ref01_Compare_r6 C v).eval fun y => some (ref01_Compare_S6 y) := by kernel_rfl
def ref01_Compare_r7 (C : ref01_Compare_C) (v : ref01_Compare_Y6) : Dt ref01_Compare_Y4 := (Dt.bnd (C.2.2.1 ((v.2.2.2.2.1, v.2.2.2.2.2.1, v.2.2.2.2.2.2, ()), (v.2.1, v.2.2.1, v.2.2.2.1, ()), ())) fun r1 => (Dt.ret r1))
theorem ref01_Compare_g7 (C : ref01_Compare_C) (v : ref01_Compare_Y6) : treg tysT (orc (ref01_Compare_tab C)) 36 (regO (bodyOf f8) 7) false [(4, .any)] (ref01_Compare_S6 v) some = (ref01_Compare_r7 C v).eval fun y => some (ref01_Compare_S4 y) := by kernel_rfl
def ref01_Compare_r8 (C : ref01_Compare_C) (v : ref01_Compare_Y6) : Dt ref01_Compare_Y4 := (Dt.bnd (C.2.2.1 ((v.2.1, v.2.2.1, v.2.2.2.1, ()), (v.2.2.2.2.1, v.2.2.2.2.2.1, v.2.2.2.2.2.2, ()), ())) fun r1 => (Dt.ret r1))
theorem ref01_Compare_g8 (C : ref01_Compare_C) (v : ref01_Compare_Y6) : treg tysT (orc (ref01_Compare_tab C)) 36 (regO (bodyOf f8) 8) false [(4, .any)] (ref01_Compare_S6 v) some = (ref01_Compare_r8 C v).eval fun y => some (ref01_Compare_S4 y) := by kernel_rfl
def F_ref01_Compare (d : Nat) (x : ref01_Compare_X) : Option ref01_Compare_R :=
  (ref01_Compare_r0 (ref01_Compare_K d) (x.1.1, x.1.2.1, x.2.1.1, x.2.1.2.1)).eval fun y0 =>
  (ref01_Compare_r1 (ref01_Compare_K d) y0).eval fun y1 =>
  (ref01_Compare_r2 (ref01_Compare_K d) y1).eval fun y2 =>
  bif y2.1 then ((ref01_Compare_r3 (ref01_Compare_K d) y2).eval fun y3 =>
  bif y3 then ((ref01_Compare_r4 (ref01_Compare_K d) y3).eval fun y4 =>
  some y4) else ((ref01_Compare_r5 (ref01_Compare_K d) y3).eval fun y5 =>
  some y5)) else ((ref01_Compare_r6 (ref01_Compare_K d) y2).eval fun y6 =>
  bif y6.1 then ((ref01_Compare_r7 (ref01_Compare_K d) y6).eval fun y7 =>
  some y7) else ((ref01_Compare_r8 (ref01_Compare_K d) y6).eval fun y8 =>
  some y8))
theorem ref01_Compare_cok (d : Nat) : COK prog (ref01_Compare_sp (F_ref01_Compare d)) := by
  have hm : prog.follows .mixedOrders = true := mixed
  have hT := tys
  have hC0 : OrcOK prog (orc (ref01_Compare_tab (ref01_Compare_K d))) := orc_ok (by
    intro S hS
    simp only [ref01_Compare_tab, List.mem_cons, List.not_mem_nil, or_false] at hS
    rcases hS with rfl | rfl | rfl
    · exact ref01_Product_cok d
    · exact ref01_Sign_cok d
    · exact ref01_less_cok d)
  have hC : OrcOK prog (orc (ref01_Compare_tab (ref01_Compare_K d))) := hC0
  refine cok_of (c := bodyOf f8) (fn := f8) hT (by kernel_rfl) (by kernel_rfl) (by decide) fun x r h w0 φ0 Q hend => ?_
  replace h : F_ref01_Compare d x = some r := h
  unfold F_ref01_Compare at h
  show Run prog w0 φ0 36 (bodyOf f8) ⟨[(0, .agg [.int .i64 x.1.1, .int .i64 x.1.2.1]), (1, .agg [.int .i64 x.2.1.1, .int .i64 x.2.1.2.1])], []⟩ Q
  refine run_seq ?_
  refine run_reg hm hT hC (ref01_Compare_g0 (ref01_Compare_K d) (x.1.1, x.1.2.1, x.2.1.1, x.2.1.2.1)) h ?_
  intro y0 h
  refine cn_then ?_
  refine run_seq ?_
  refine run_reg hm hT hC (ref01_Compare_g1 (ref01_Compare_K d) y0) h ?_
  intro y1 h
  refine cn_then ?_
  refine run_seq ?_
  refine run_seq ?_
  refine run_reg hm hT hC (ref01_Compare_g2 (ref01_Compare_K d) y1) h ?_
  intro y2 h
  refine cn_then ?_
  refine run_cond (v := y2.1) (by kernel_rfl) h ?_ ?_
  ·
    intro h
    refine run_seq ?_
    refine run_seq ?_
    refine run_reg hm hT hC (ref01_Compare_g3 (ref01_Compare_K d) y2) h ?_
    intro y3 h
    refine cn_then ?_
    refine run_cond (v := y3) (by kernel_rfl) h ?_ ?_
    ·
      intro h
      refine run_seq ?_
      refine run_reg hm hT hC (ref01_Compare_g4 (ref01_Compare_K d) y3) h ?_
      intro y4 h
      refine cn_then ?_
      refine run_ret ?_
      refine cn_then_ret ?_
      refine cn_then_ret ?_
      cases h
      exact (hend _ (by kernel_rfl)).2
    ·
      intro h
      refine run_skip ?_
      refine cn_then ?_
      refine run_seq ?_
      refine run_reg hm hT hC (ref01_Compare_g5 (ref01_Compare_K d) y3) h ?_
      intro y5 h
      refine cn_then ?_
      refine run_ret ?_
      refine cn_then_ret ?_
      cases h
      exact (hend _ (by kernel_rfl)).2
  ·
    intro h
    refine run_skip ?_
    refine cn_then ?_
    refine run_seq ?_
    refine run_seq ?_
    refine run_reg hm hT hC (ref01_Compare_g6 (ref01_Compare_K d) y2) h ?_
    intro y6 h
    refine cn_then ?_
    refine run_cond (v := y6.1) (by kernel_rfl) h ?_ ?_
    ·
      intro h
      refine run_seq ?_
      refine run_reg hm hT hC (ref01_Compare_g7 (ref01_Compare_K d) y6) h ?_
      intro y7 h
      refine cn_then ?_
      refine run_ret ?_
      refine cn_then_ret ?_
      cases h
      exact (hend _ (by kernel_rfl)).2
    ·
      intro h
      refine run_skip ?_
      refine cn_then ?_
      refine run_seq ?_
      refine run_reg hm hT hC (ref01_Compare_g8 (ref01_Compare_K d) y6) h ?_
      intro y8 h
      refine cn_then ?_
      refine run_ret ?_
      cases h
      exact (hend _ (by kernel_rfl)).2
abbrev ref04_Same_ps : List Pk := [.row RLiiiiE false, .row RLiiiiE false]
abbrev ref04_Same_X : Type := DLiiiiE × DLiiiiE × Unit
abbrev ref04_Same_R : Type := Bool
def ref04_Same_enc (r : ref04_Same_R) : LV × List Ob := (.bool r, [])
def ref04_Same_sp (F : ref04_Same_X → Option ref04_Same_R) : Go.Tx.Spec := ⟨13, ref04_Same_ps, ref04_Same_R, F, ref04_Same_enc⟩
abbrev ref04_Same_C : Type := Unit
def ref04_Same_K (_d : Nat) : ref04_Same_C := ()
def ref04_Same_tab (C : ref04_Same_C) : List Go.Tx.Spec := []
abbrev ref04_Same_Y0i : Type := List Diiii × List Diiii
def ref04_Same_S0i (v : ref04_Same_Y0i) : St := ⟨[(0, .fz Riiii v.1), (1, .fz Riiii v.2)], []⟩
def ref04_Same_r0 (C : ref04_Same_C) (v : ref04_Same_Y0i) : Dt ref04_Same_Y0i := (Dt.ret (v.1, v.2))
theorem ref04_Same_g0 (C : ref04_Same_C) (v : ref04_Same_Y0i) : treg tysT (orc (ref04_Same_tab C)) 26 (regO (bodyOf f13) 0) false [(0, (.val Riiii)), (1, (.val Riiii))] (ref04_Same_S0i v) some = (ref04_Same_r0 C v).eval fun y => some (ref04_Same_S0i y) := by kernel_rfl
abbrev ref04_Same_Y1 : Type := List Diiii × List Diiii × Bool
def ref04_Same_S1 (v : ref04_Same_Y1) : St := ⟨[(0, .fz Riiii v.1), (1, .fz Riiii v.2.1), (10, .bool v.2.2)], []⟩
def ref04_Same_r1 (C : ref04_Same_C) (v : ref04_Same_Y0i) : Dt ref04_Same_Y1 := (Dt.ret (v.1, v.2, ((List.length v.1 : Int) != (List.length v.2 : Int))))
theorem ref04_Same_g1 (C : ref04_Same_C) (v : ref04_Same_Y0i) : treg tysT (orc (ref04_Same_tab C)) 26 (regO (bodyOf f13) 1) false [(0, (.val Riiii)), (1, (.val Riiii)), (10, .any)] (ref04_Same_S0i v) some = (ref04_Same_r1 C v).eval fun y => some (ref04_Same_S1 y) := by kernel_rfl
abbrev ref04_Same_Y2 : Type := Bool
def ref04_Same_S2 (v : ref04_Same_Y2) : St := ⟨[(4, .bool v)], []⟩
def ref04_Same_r2 (C : ref04_Same_C) (v : ref04_Same_Y1) : Dt ref04_Same_Y2 := (Dt.ret false)
theorem ref04_Same_g2 (C : ref04_Same_C) (v : ref04_Same_Y1) : treg tysT (orc (ref04_Same_tab C)) 26 (regO (bodyOf f13) 2) false [(4, .any)] (ref04_Same_S1 v) some = (ref04_Same_r2 C v).eval fun y => some (ref04_Same_S2 y) := by kernel_rfl
abbrev ref04_Same_Y3 : Type := List Diiii × List Diiii × Int
def ref04_Same_S3 (v : ref04_Same_Y3) : St := ⟨[(0, .fz Riiii v.1), (1, .fz Riiii v.2.1), (5, .int .i64 v.2.2)], []⟩
def ref04_Same_r3 (C : ref04_Same_C) (v : ref04_Same_Y1) : Dt ref04_Same_Y3 := (Dt.ret (v.1, v.2.1, (0:Int)))
theorem ref04_Same_g3 (C : ref04_Same_C) (v : ref04_Same_Y1) : treg tysT (orc (ref04_Same_tab C)) 26 (regO (bodyOf f13) 3) false [(0, (.val Riiii)), (1, (.val Riiii)), (5, .any)] (ref04_Same_S1 v) some = (ref04_Same_r3 C v).eval fun y => some (ref04_Same_S3 y) := by kernel_rfl
abbrev ref04_Same_Y4 : Type := List Diiii × List Diiii × Int × Bool
def ref04_Same_S4 (v : ref04_Same_Y4) : St := ⟨[(0, .fz Riiii v.1), (1, .fz Riiii v.2.1), (5, .int .i64 v.2.2.1), (14, .bool v.2.2.2)], []⟩
def ref04_Same_r4 (C : ref04_Same_C) (v : ref04_Same_Y3) : Dt ref04_Same_Y4 := (Dt.ret (v.1, v.2.1, v.2.2, (decide (v.2.2 < (List.length v.1 : Int)))))
theorem ref04_Same_g4 (C : ref04_Same_C) (v : ref04_Same_Y3) : treg tysT (orc (ref04_Same_tab C)) 26 (regO (bodyOf f13) 4) false [(0, (.val Riiii)), (1, (.val Riiii)), (5, .any), (14, .any)] (ref04_Same_S3 v) some = (ref04_Same_r4 C v).eval fun y => some (ref04_Same_S4 y) := by kernel_rfl
abbrev ref04_Same_Y6 : Type := List Diiii × List Diiii × Int × Bool
def ref04_Same_S6 (v : ref04_Same_Y6) : St := ⟨[(0, .fz Riiii v.1), (1, .fz Riiii v.2.1), (5, .int .i64 v.2.2.1), (25, .bool v.2.2.2)], []⟩
def ref04_Same_r6 (C : ref04_Same_C) (v : ref04_Same_Y4) : Dt ref04_Same_Y6 := (Dt.ite (inB v.2.2.1 (List.length v.1)) (Dt.ite (inB v.2.2.1 (List.length v.2.1)) (Dt.ret (v.1, v.2.1, v.2.2.1, (!(((elt ziiii v.1 (v.2.2.1).toNat).1 == (elt ziiii v.2.1 (v.2.2.1).toNat).1) && (((elt ziiii v.1 (v.2.2.1).toNat).2.1 == (elt ziiii v.2.1 (v.2.2.1).toNat).2.1) && (((elt ziiii v.1 (v.2.2.1).toNat).2.2.1 == (elt ziiii v.2.1 (v.2.2.1).toNat).2.2.1) && (((elt ziiii v.1 (v.2.2.1).toNat).2.2.2.1 == (elt ziiii v.2.1 (v.2.2.1).toNat).2.2.2.1) && true))))))) Dt.fail) Dt.fail)
theorem ref04_Same_g6 (C : ref04_Same_C) (v : ref04_Same_Y4) : treg tysT (orc (ref04_Same_tab C)) 26 (regO (bodyOf f13) 6) true [(0, (.val Riiii)), (1, (.val Riiii)), (5, .any), (25, .any)] (ref04_Same_S4 v) some = (ref04_Same_r6 C v).eval fun y => some (ref04_Same_S6 y) := by kernel_rfl
def ref04_Same_r7 (C : ref04_Same_C) (v : ref04_Same_Y6) : Dt ref04_Same_Y2 := (Dt.ret false)
theorem ref04_Same_g7 (C : ref04_Same_C) (v : ref04_Same_Y6) : treg tysT (orc (ref04_Same_tab C)) 26 (regO (bodyOf f13) 7) false [(4, .any)] (ref04_Same_S6 v) some = (ref04_Same_r7 C v).eval fun y => some (ref04_Same_S2 y) := by kernel_rfl
def ref04_Same_r5 (C : ref04_Same_C) (v : ref04_Same_Y6) : Dt ref04_Same_Y3 := (Dt.ret (v.1, v.2.1, (IntKind.wrap .i64 (v.2.2.1 + (1:Int)))))
theorem ref04_Same_g5 (C : ref04_Same_C) (v : ref04_Same_Y6) : treg tysT (orc (ref04_Same_tab C)) 26 (regO (bodyOf f13) 5) false [(0, (.val Riiii)), (1, (.val Riiii)), (5, .any)] (ref04_Same_S6 v) some = (ref04_Same_r5 C v).eval fun y => some (ref04_Same_S3 y) := by kernel_rfl
def ref04_Same_r8 (C : ref04_Same_C) (v : ref04_Same_Y4) : Dt ref04_Same_Y2 := (Dt.ret true)
theorem ref04_Same_g8 (C : ref04_Same_C) (v : ref04_Same_Y4) : treg tysT (orc (ref04_Same_tab C)) 26 (regO (bodyOf f13) 8) false [(4, .any)] (ref04_Same_S4 v) some = (ref04_Same_r8 C v).eval fun y => some (ref04_Same_S2 y) := by kernel_rfl
def ref04_Same_L1 (d : Nat) (self1 : (List Diiii × List Diiii × Int) → Option ref04_Same_R) (x1 : List Diiii × List Diiii × Int) : Option ref04_Same_R :=
  (ref04_Same_r4 (ref04_Same_K d) x1).eval fun y4 =>
  bif y4.2.2.2 then ((ref04_Same_r6 (ref04_Same_K d) y4).eval fun y6 =>
  bif y6.2.2.2 then ((ref04_Same_r7 (ref04_Same_K d) y6).eval fun y7 =>
  some y7) else ((ref04_Same_r5 (ref04_Same_K d) y6).eval fun y5 =>
  self1 y5)) else ((ref04_Same_r8 (ref04_Same_K d) y4).eval fun y8 =>
  some y8)
def F_ref04_Same (d : Nat) (x : ref04_Same_X) : Option ref04_Same_R :=
  (ref04_Same_r0 (ref04_Same_K d) (x.1.1, x.2.1.1)).eval fun y0 =>
  (ref04_Same_r1 (ref04_Same_K d) y0).eval fun y1 =>
  bif y1.2.2 then ((ref04_Same_r2 (ref04_Same_K d) y1).eval fun y2 =>
  some y2) else ((ref04_Same_r3 (ref04_Same_K d) y1).eval fun y3 =>
  iter (ref04_Same_L1 d ) d y3)
theorem ref04_Same_cok (d : Nat) : COK prog (ref04_Same_sp (F_ref04_Same d)) := by
  have hm : prog.follows .mixedOrders = true := mixed
  have hT := tys
  have hC0 : OrcOK prog (orc (ref04_Same_tab (ref04_Same_K d))) := orc_ok (by
    intro S hS
    simp only [ref04_Same_tab, List.mem_cons, List.not_mem_nil, or_false] at hS
    all_goals first | cases hS | exact hS.elim)
  have hC : OrcOK prog (orc (ref04_Same_tab (ref04_Same_K d))) := hC0
  refine cok_of (c := bodyOf f13) (fn := f13) hT (by kernel_rfl) (by kernel_rfl) (by decide) fun x r h w0 φ0 Q hend => ?_
  replace h : F_ref04_Same d x = some r := h
  unfold F_ref04_Same at h
  show Run prog w0 φ0 26 (bodyOf f13) ⟨[(0, .fz Riiii x.1.1), (1, .fz Riiii x.2.1.1)], []⟩ Q
  refine run_seq ?_
  refine run_reg hm hT hC (ref04_Same_g0 (ref04_Same_K d) (x.1.1, x.2.1.1)) h ?_
  intro y0 h
  refine cn_then ?_
  refine run_seq ?_
  refine run_seq ?_
  refine run_reg hm hT hC (ref04_Same_g1 (ref04_Same_K d) y0) h ?_
  intro y1 h
  refine cn_then ?_
  refine run_cond (v := y1.2.2) (by kernel_rfl) h ?_ ?_
  ·
    intro h
    refine run_seq ?_
    refine run_reg hm hT hC (ref04_Same_g2 (ref04_Same_K d) y1) h ?_
    intro y2 h
    refine cn_then ?_
    refine run_ret ?_
    refine cn_then_ret ?_
    cases h
    exact (hend _ (by kernel_rfl)).2
  ·
    intro h
    refine run_skip ?_
    refine cn_then ?_
    refine run_seq ?_
    refine run_seq ?_
    refine run_reg hm hT hC (ref04_Same_g3 (ref04_Same_K d) y1) h ?_
    intro y3 h
    refine cn_then ?_
    refine run_block ?_
    refine run_loop (G := iter (ref04_Same_L1 d )) (S := (fun x1 => ⟨[(0, .fz Riiii x1.1), (1, .fz Riiii x1.2.1), (5, .int .i64 x1.2.2)], []⟩ : List Diiii × List Diiii × Int → St)) (fun _ => rfl) ?_ d _ h
    intro n1 x1 h K1 hn1
    replace h : ref04_Same_L1 d  (iter (ref04_Same_L1 d ) n1) x1 = some r := h
    generalize iter (ref04_Same_L1 d ) n1 = self1 at h hn1
    unfold ref04_Same_L1 at h
    refine run_seq ?_
    refine run_seq ?_
    refine run_reg hm hT hC (ref04_Same_g4 (ref04_Same_K d) x1) h ?_
    intro y4 h
    refine cn_then ?_
    refine run_cond (v := y4.2.2.2) (by kernel_rfl) h ?_ ?_
    ·
      intro h
      refine run_skip ?_
      refine cn_then ?_
      refine run_seq ?_
      refine run_block ?_
      refine run_seq ?_
      refine run_reg hm hT hC (ref04_Same_g6 (ref04_Same_K d) y4) h ?_
      intro y6 h
      refine cn_then ?_
      refine run_cond (v := y6.2.2.2) (by kernel_rfl) h ?_ ?_
      ·
        intro h
        refine run_seq ?_
        refine run_reg hm hT hC (ref04_Same_g7 (ref04_Same_K d) y6) h ?_
        intro y7 h
        refine cn_then ?_
        refine run_ret ?_
        refine cn_blk_ret ?_
        refine cn_then_ret ?_
        refine cn_then_ret ?_
        refine cn_blk_ret ?_
        refine cn_then_ret ?_
        cases h
        exact (hend _ (by kernel_rfl)).2
      ·
        intro h
        refine run_skip ?_
        refine cn_blk ?_
        refine cn_then ?_
        refine run_reg hm hT hC (ref04_Same_g5 (ref04_Same_K d) y6) h ?_
        intro y5 h
        exact hn1 _ h
    ·
      intro h
      refine run_exit ?_
      refine cn_then_exit ?_
      refine cn_then_exit ?_
      refine cn_blk_eq ?_
      refine cn_then ?_
      refine run_seq ?_
      refine run_reg hm hT hC (ref04_Same_g8 (ref04_Same_K d) y4) h ?_
      intro y8 h
      refine cn_then ?_
      refine run_ret ?_
      cases h
      exact (hend _ (by kernel_rfl)).2
abbrev ref34_Other_ps : List Pk := [.row Riiii true, .row Ri false]
abbrev ref34_Other_X : Type := Diiii × Di × Unit
abbrev ref34_Other_R : Type := Int
def ref34_Other_enc (r : ref34_Other_R) : LV × List Ob := (.int .i64 r, [])
def ref34_Other_sp (F : ref34_Other_X → Option ref34_Other_R) : Go.Tx.Spec := ⟨12, ref34_Other_ps, ref34_Other_R, F, ref34_Other_enc⟩
abbrev ref34_Other_C : Type := Unit
def ref34_Other_K (_d : Nat) : ref34_Other_C := ()
def ref34_Other_tab (C : ref34_Other_C) : List Go.Tx.Spec := []
abbrev ref34_Other_Y0i : Type := Int × Int × Int × Int × Int
def ref34_Other_S0i (v : ref34_Other_Y0i) : St := ⟨[(0, .agg [.int .i64 v.1, .int .i64 v.2.1, .int .i64 v.2.2.1, .int .i64 v.2.2.2.1]), (1, .int .i64 v.2.2.2.2)], []⟩
abbrev ref34_Other_Y0 : Type := Int × Int × Int × Int × Int
def ref34_Other_S0 (v : ref34_Other_Y0) : St := ⟨[(1, .int .i64 v.1), (2, .ptr 0 0)], [.cells [.int .i64 v.2.1, .int .i64 v.2.2.1, .int .i64 v.2.2.2.1, .int .i64 v.2.2.2.2]]⟩
def ref34_Other_r0 (C : ref34_Other_C) (v : ref34_Other_Y0i) : Dt ref34_Other_Y0 := (Dt.ret (v.2.2.2.2, v.1, v.2.1, v.2.2.1, v.2.2.2.1))
theorem ref34_Other_g0 (C : ref34_Other_C) (v : ref34_Other_Y0i) : treg tysT (orc (ref34_Other_tab C)) 13 (regO (bodyOf f12) 0) false [(1, .any), (2, .any)] (ref34_Other_S0i v) some = (ref34_Other_r0 C v).eval fun y => some (ref34_Other_S0 y) := by kernel_rfl
abbrev ref34_Other_Y1 : Type := Bool × Int × Int × Int × Int
def ref34_Other_S1 (v : ref34_Other_Y1) : St := ⟨[(2, .ptr 0 0), (8, .bool v.1)], [.cells [.int .i64 v.2.1, .int .i64 v.2.2.1, .int .i64 v.2.2.2.1, .int .i64 v.2.2.2.2]]⟩
def ref34_Other_r1 (C : ref34_Other_C) (v : ref34_Other_Y0) : Dt ref34_Other_Y1 := (Dt.ret ((v.2.2.2.1 == v.1), v.2.1, v.2.2.1, v.2.2.2.1, v.2.2.2.2))
theorem ref34_Other_g1 (C : ref34_Other_C) (v : ref34_Other_Y0) : treg tysT (orc (ref34_Other_tab C)) 13 (regO (bodyOf f12) 1) false [(2, .any), (8, .any)] (ref34_Other_S0 v) some = (ref34_Other_r1 C v).eval fun y => some (ref34_Other_S1 y) := by kernel_rfl
abbrev ref34_Other_Y2 : Type := Int
def ref34_Other_S2 (v : ref34_Other_Y2) : St := ⟨[(4, .int .i64 v)], []⟩
def ref34_Other_r2 (C : ref34_Other_C) (v : ref34_Other_Y1) : Dt ref34_Other_Y2 := (Dt.ret v.2.2.2.2)
theorem ref34_Other_g2 (C : ref34_Other_C) (v : ref34_Other_Y1) : treg tysT (orc (ref34_Other_tab C)) 13 (regO (bodyOf f12) 2) false [(4, .any)] (ref34_Other_S1 v) some = (ref34_Other_r2 C v).eval fun y => some (ref34_Other_S2 y) := by kernel_rfl
def ref34_Other_r3 (C : ref34_Other_C) (v : ref34_Other_Y1) : Dt ref34_Other_Y2 := (Dt.ret v.2.2.2.1)
theorem ref34_Other_g3 (C : ref34_Other_C) (v : ref34_Other_Y1) : treg tysT (orc (ref34_Other_tab C)) 13 (regO (bodyOf f12) 3) false [(4, .any)] (ref34_Other_S1 v) some = (ref34_Other_r3 C v).eval fun y => some (ref34_Other_S2 y) := by kernel_rfl
def F_ref34_Other (d : Nat) (x : ref34_Other_X) : Option ref34_Other_R :=
  (ref34_Other_r0 (ref34_Other_K d) (x.1.1, x.1.2.1, x.1.2.2.1, x.1.2.2.2.1, x.2.1.1)).eval fun y0 =>
  (ref34_Other_r1 (ref34_Other_K d) y0).eval fun y1 =>
  bif y1.1 then ((ref34_Other_r2 (ref34_Other_K d) y1).eval fun y2 =>
  some y2) else ((ref34_Other_r3 (ref34_Other_K d) y1).eval fun y3 =>
  some y3)
theorem ref34_Other_cok (d : Nat) : COK prog (ref34_Other_sp (F_ref34_Other d)) := by
  have hm : prog.follows .mixedOrders = true := mixed
  have hT := tys
  have hC0 : OrcOK prog (orc (ref34_Other_tab (ref34_Other_K d))) := orc_ok (by
    intro S hS
    simp only [ref34_Other_tab, List.mem_cons, List.not_mem_nil, or_false] at hS
    all_goals first | cases hS | exact hS.elim)
  have hC : OrcOK prog (orc (ref34_Other_tab (ref34_Other_K d))) := hC0
  refine cok_of (c := bodyOf f12) (fn := f12) hT (by kernel_rfl) (by kernel_rfl) (by decide) fun x r h w0 φ0 Q hend => ?_
  replace h : F_ref34_Other d x = some r := h
  unfold F_ref34_Other at h
  show Run prog w0 φ0 13 (bodyOf f12) ⟨[(0, .agg [.int .i64 x.1.1, .int .i64 x.1.2.1, .int .i64 x.1.2.2.1, .int .i64 x.1.2.2.2.1]), (1, .int .i64 x.2.1.1)], []⟩ Q
  refine run_seq ?_
  refine run_reg hm hT hC (ref34_Other_g0 (ref34_Other_K d) (x.1.1, x.1.2.1, x.1.2.2.1, x.1.2.2.2.1, x.2.1.1)) h ?_
  intro y0 h
  refine cn_then ?_
  refine run_seq ?_
  refine run_seq ?_
  refine run_reg hm hT hC (ref34_Other_g1 (ref34_Other_K d) y0) h ?_
  intro y1 h
  refine cn_then ?_
  refine run_cond (v := y1.1) (by kernel_rfl) h ?_ ?_
  ·
    intro h
    refine run_seq ?_
    refine run_reg hm hT hC (ref34_Other_g2 (ref34_Other_K d) y1) h ?_
    intro y2 h
    refine cn_then ?_
    refine run_ret ?_
    refine cn_then_ret ?_
    cases h
    exact (hend _ (by kernel_rfl)).2
  ·
    intro h
    refine run_skip ?_
    refine cn_then ?_
    refine run_seq ?_
    refine run_reg hm hT hC (ref34_Other_g3 (ref34_Other_K d) y1) h ?_
    intro y3 h
    refine cn_then ?_
    refine run_ret ?_
    cases h
    exact (hend _ (by kernel_rfl)).2
end Go.Proofs.YtmagihjfbembjaaGreat
