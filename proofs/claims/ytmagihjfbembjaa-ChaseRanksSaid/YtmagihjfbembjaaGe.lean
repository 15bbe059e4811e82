/- Walks of the references; the orders agree; examples. -/
import Derived.Test.YtmagihjfbembjaaGd
set_option linter.unusedSimpArgs false
set_option linter.unusedVariables false
namespace Go.Proofs.Ytmagihjfbembjaa
open Go Go.Tx Go.Proofs.Try
set_option maxRecDepth 100000
set_option maxHeartbeats 0
abbrev slices_Index_int_int_ps : List Pk := [.row RLiE false, .row Ri false]
abbrev slices_Index_int_int_X : Type := DLiE × Di × Unit
abbrev slices_Index_int_int_R : Type := Int
def slices_Index_int_int_enc (r : slices_Index_int_int_R) : LV × List Ob := (.int .i64 r, [])
def slices_Index_int_int_sp (F : slices_Index_int_int_X → Option slices_Index_int_int_R) : Go.Tx.Spec := ⟨86, slices_Index_int_int_ps, slices_Index_int_int_R, F, slices_Index_int_int_enc⟩
abbrev slices_Index_int_int_C : Type := Unit
def slices_Index_int_int_K (_d : Nat) : slices_Index_int_int_C := ()
def slices_Index_int_int_tab (C : slices_Index_int_int_C) : List Go.Tx.Spec := []
abbrev slices_Index_int_int_Y0i : Type := List Di × Int
def slices_Index_int_int_S0i (v : slices_Index_int_int_Y0i) : St := ⟨[(0, .fz Ri v.1), (1, .int .i64 v.2)], []⟩
def slices_Index_int_int_r0 (C : slices_Index_int_int_C) (v : slices_Index_int_int_Y0i) : Dt slices_Index_int_int_Y0i := (Dt.ret (v.1, v.2))
theorem slices_Index_int_int_g0 (C : slices_Index_int_int_C) (v : slices_Index_int_int_Y0i) : treg tysT (orc (slices_Index_int_int_tab C)) 19 (regO (bodyOf f86) 0) false [(0, (.val Ri)), (1, .any)] (slices_Index_int_int_S0i v) some = (slices_Index_int_int_r0 C v).eval fun y => some (slices_Index_int_int_S0i y) := by kernel_rfl
abbrev slices_Index_int_int_Y1 : Type := List Di × Int × Int × Int
def slices_Index_int_int_S1 (v : slices_Index_int_int_Y1) : St := ⟨[(0, .fz Ri v.1), (1, .int .i64 v.2.1), (7, .int .i64 v.2.2.1), (8, .int .i64 v.2.2.2)], []⟩
def slices_Index_int_int_r1 (C : slices_Index_int_int_C) (v : slices_Index_int_int_Y0i) : Dt slices_Index_int_int_Y1 := (Dt.ret (v.1, v.2, (List.length v.1 : Int), (0:Int)))
theorem slices_Index_int_int_g1 (C : slices_Index_int_int_C) (v : slices_Index_int_int_Y0i) : treg tysT (orc (slices_Index_int_int_tab C)) 19 (regO (bodyOf f86) 1) false [(0, (.val Ri)), (1, .any), (7, .any), (8, .any)] (slices_Index_int_int_S0i v) some = (slices_Index_int_int_r1 C v).eval fun y => some (slices_Index_int_int_S1 y) := by kernel_rfl
abbrev slices_Index_int_int_Y2 : Type := List Di × Int × Int × Int × Bool
def slices_Index_int_int_S2 (v : slices_Index_int_int_Y2) : St := ⟨[(0, .fz Ri v.1), (1, .int .i64 v.2.1), (7, .int .i64 v.2.2.1), (8, .int .i64 v.2.2.2.1), (9, .bool v.2.2.2.2)], []⟩
def slices_Index_int_int_r2 (C : slices_Index_int_int_C) (v : slices_Index_int_int_Y1) : Dt slices_Index_int_int_Y2 := (Dt.ret (v.1, v.2.1, v.2.2.1, v.2.2.2, (decide (v.2.2.2 < v.2.2.1))))
theorem slices_Index_int_int_g2 (C : slices_Index_int_int_C) (v : slices_Index_int_int_Y1) : treg tysT (orc (slices_Index_int_int_tab C)) 19 (regO (bodyOf f86) 2) false [(0, (.val Ri)), (1, .any), (7, .any), (8, .any), (9, .any)] (slices_Index_int_int_S1 v) some = (slices_Index_int_int_r2 C v).eval fun y => some (slices_Index_int_int_S2 y) := by kernel_rfl
abbrev slices_Index_int_int_Y3 : Type := List Di × Int × Int × Int × Int
def slices_Index_int_int_S3 (v : slices_Index_int_int_Y3) : St := ⟨[(0, .fz Ri v.1), (1, .int .i64 v.2.1), (5, .int .i64 v.2.2.1), (7, .int .i64 v.2.2.2.1), (8, .int .i64 v.2.2.2.2)], []⟩
def slices_Index_int_int_r3 (C : slices_Index_int_int_C) (v : slices_Index_int_int_Y2) : Dt slices_Index_int_int_Y3 := (Dt.ret (v.1, v.2.1, v.2.2.2.1, v.2.2.1, v.2.2.2.1))
theorem slices_Index_int_int_g3 (C : slices_Index_int_int_C) (v : slices_Index_int_int_Y2) : treg tysT (orc (slices_Index_int_int_tab C)) 19 (regO (bodyOf f86) 3) false [(0, (.val Ri)), (1, .any), (5, .any), (7, .any), (8, .any)] (slices_Index_int_int_S2 v) some = (slices_Index_int_int_r3 C v).eval fun y => some (slices_Index_int_int_S3 y) := by kernel_rfl
abbrev slices_Index_int_int_Y4 : Type := List Di × Int × Int × Int × Int × Bool
def slices_Index_int_int_S4 (v : slices_Index_int_int_Y4) : St := ⟨[(0, .fz Ri v.1), (1, .int .i64 v.2.1), (5, .int .i64 v.2.2.1), (7, .int .i64 v.2.2.2.1), (8, .int .i64 v.2.2.2.2.1), (16, .bool v.2.2.2.2.2)], []⟩
def slices_Index_int_int_r4 (C : slices_Index_int_int_C) (v : slices_Index_int_int_Y3) : Dt slices_Index_int_int_Y4 := (Dt.ite (inB v.2.2.1 (List.length v.1)) (Dt.ret (v.1, v.2.1, v.2.2.1, v.2.2.2.1, v.2.2.2.2, (v.2.1 == (elt zi v.1 (v.2.2.1).toNat).1))) Dt.fail)
theorem slices_Index_int_int_g4 (C : slices_Index_int_int_C) (v : slices_Index_int_int_Y3) : treg tysT (orc (slices_Index_int_int_tab C)) 19 (regO (bodyOf f86) 4) false [(0, (.val Ri)), (1, .any), (5, .any), (7, .any), (8, .any), (16, .any)] (slices_Index_int_int_S3 v) some = (slices_Index_int_int_r4 C v).eval fun y => some (slices_Index_int_int_S4 y) := by kernel_rfl
abbrev slices_Index_int_int_Y5 : Type := Int
def slices_Index_int_int_S5 (v : slices_Index_int_int_Y5) : St := ⟨[(4, .int .i64 v)], []⟩
def slices_Index_int_int_r5 (C : slices_Index_int_int_C) (v : slices_Index_int_int_Y4) : Dt slices_Index_int_int_Y5 := (Dt.ret v.2.2.1)
theorem slices_Index_int_int_g5 (C : slices_Index_int_int_C) (v : slices_Index_int_int_Y4) : treg tysT (orc (slices_Index_int_int_tab C)) 19 (regO (bodyOf f86) 5) false [(4, .any)] (slices_Index_int_int_S4 v) some = (slices_Index_int_int_r5 C v).eval fun y => some (slices_Index_int_int_S5 y) := by kernel_rfl
def slices_Index_int_int_r6 (C : slices_Index_int_int_C) (v : slices_Index_int_int_Y4) : Dt slices_Index_int_int_Y1 := (Dt.ret (v.1, v.2.1, v.2.2.2.1, (IntKind.wrap .i64 (v.2.2.2.2.1 + (1:Int)))))
theorem slices_Index_int_int_g6 (C : slices_Index_int_int_C) (v : slices_Index_int_int_Y4) : treg tysT (orc (slices_Index_int_int_tab C)) 19 (regO (bodyOf f86) 6) false [(0, (.val Ri)), (1, .any), (7, .any), (8, .any)] (slices_Index_int_int_S4 v) some = (slices_Index_int_int_r6 C v).eval fun y => some (slices_Index_int_int_S1 y) := by kernel_rfl
def slices_Index_int_int_r7 (C : slices_Index_int_int_C) (v : slices_Index_int_int_Y2) : Dt slices_Index_int_int_Y5 := (Dt.ret (-1:Int))
theorem slices_Index_int_int_g7 (C : slices_Index_int_int_C) (v : slices_Index_int_int_Y2) : treg tysT (orc (slices_Index_int_int_tab C)) 19 (regO (bodyOf f86) 7) false [(4, .any)] (slices_Index_int_int_S2 v) some = (slices_Index_int_int_r7 C v).eval fun y => some (slices_Index_int_int_S5 y) := by kernel_rfl
def slices_Index_int_int_L1 (d : Nat) (self1 : (List Di × Int × Int × Int) → Option slices_Index_int_int_R) (x1 : List Di × Int × Int × Int) : Option slices_Index_int_int_R :=
  (slices_Index_int_int_r2 (slices_Index_int_int_K d) x1).eval fun y2 =>
  bif y2.2.2.2.2 then ((slices_Index_int_int_r3 (slices_Index_int_int_K d) y2).eval fun y3 =>
  (slices_Index_int_int_r4 (slices_Index_int_int_K d) y3).eval fun y4 =>
  bif y4.2.2.2.2.2 then ((slices_Index_int_int_r5 (slices_Index_int_int_K d) y4).eval fun y5 =>
  some y5) else ((slices_Index_int_int_r6 (slices_Index_int_int_K d) y4).eval fun y6 =>
  self1 y6)) else ((slices_Index_int_int_r7 (slices_Index_int_int_K d) y2).eval fun y7 =>
  some y7)
def F_slices_Index_int_int (d : Nat) (x : slices_Index_int_int_X) : Option slices_Index_int_int_R :=
  (slices_Index_int_int_r0 (slices_Index_int_int_K d) (x.1.1, x.2.1.1)).eval fun y0 =>
  (slices_Index_int_int_r1 (slices_Index_int_int_K d) y0).eval fun y1 =>
  iter (slices_Index_int_int_L1 d ) d y1
theorem slices_Index_int_int_cok (d : Nat) : COK prog (slices_Index_int_int_sp (F_slices_Index_int_int d)) := by
  have hm : prog.follows .mixedOrders = true := mixed
  have hT := tys
  have hC0 : OrcOK prog (orc (slices_Index_int_int_tab (slices_Index_int_int_K d))) := orc_ok (by
    intro S hS
    simp only [slices_Index_int_int_tab, List.mem_cons, List.not_mem_nil, or_false] at hS
    all_goals first | cases hS | exact hS.elim)
  have hC : OrcOK prog (orc (slices_Index_int_int_tab (slices_Index_int_int_K d))) := hC0
  refine cok_of (c := bodyOf f86) (fn := f86) hT (by kernel_rfl) (by kernel_rfl) (by decide) fun x r h w0 φ0 Q hend => ?_
  replace h : F_slices_Index_int_int d x = some r := h
  unfold F_slices_Index_int_int at h
  show Run prog w0 φ0 19 (bodyOf f86) ⟨[(0, .fz Ri x.1.1), (1, .int .i64 x.2.1.1)], []⟩ Q
  refine run_seq ?_
  refine run_reg hm hT hC (slices_Index_int_int_g0 (slices_Index_int_int_K d) (x.1.1, x.2.1.1)) h ?_
  intro y0 h
  refine cn_then ?_
  refine run_seq ?_
  refine run_seq ?_
  refine run_reg hm hT hC (slices_Index_int_int_g1 (slices_Index_int_int_K d) y0) h ?_
  intro y1 h
  refine cn_then ?_
  refine run_block ?_
  refine run_loop (G := iter (slices_Index_int_int_L1 d )) (S := (fun x1 => ⟨[(0, .fz Ri x1.1), (1, .int .i64 x1.2.1), (7, .int .i64 x1.2.2.1), (8, .int .i64 x1.2.2.2)], []⟩ : List Di × Int × Int × Int → St)) (fun _ => rfl) ?_ d _ h
  intro n1 x1 h K1 hn1
  replace h : slices_Index_int_int_L1 d  (iter (slices_Index_int_int_L1 d ) n1) x1 = some r := h
  generalize iter (slices_Index_int_int_L1 d ) n1 = self1 at h hn1
  unfold slices_Index_int_int_L1 at h
  refine run_seq ?_
  refine run_reg hm hT hC (slices_Index_int_int_g2 (slices_Index_int_int_K d) x1) h ?_
  intro y2 h
  refine cn_then ?_
  refine run_seq ?_
  refine run_cond (v := y2.2.2.2.2) (by kernel_rfl) h ?_ ?_
  ·
    intro h
    refine run_skip ?_
    refine cn_then ?_
    refine run_seq ?_
    refine run_block ?_
    refine run_seq ?_
    refine run_reg hm hT hC (slices_Index_int_int_g3 (slices_Index_int_int_K d) y2) h ?_
    intro y3 h
    refine cn_then ?_
    refine run_seq ?_
    refine run_reg hm hT hC (slices_Index_int_int_g4 (slices_Index_int_int_K d) y3) h ?_
    intro y4 h
    refine cn_then ?_
    refine run_cond (v := y4.2.2.2.2.2) (by kernel_rfl) h ?_ ?_
    ·
      intro h
      refine run_seq ?_
      refine run_reg hm hT hC (slices_Index_int_int_g5 (slices_Index_int_int_K d) y4) h ?_
      intro y5 h
      refine cn_then ?_
      refine run_ret ?_
      refine cn_blk_ret ?_
      refine cn_then_ret ?_
      refine cn_then_ret ?_
      refine cn_blk_ret ?_
      refine cn_then_ret ?_
      cases h
      exact (hend _ (by kernel_rfl)).2
    ·
      intro h
      refine run_skip ?_
      refine cn_blk ?_
      refine cn_then ?_
      refine run_reg hm hT hC (slices_Index_int_int_g6 (slices_Index_int_int_K d) y4) h ?_
      intro y6 h
      exact hn1 _ h
  ·
    intro h
    refine run_exit ?_
    refine cn_then_exit ?_
    refine cn_then_exit ?_
    refine cn_blk_eq ?_
    refine cn_then ?_
    refine run_seq ?_
    refine run_reg hm hT hC (slices_Index_int_int_g7 (slices_Index_int_int_K d) y2) h ?_
    intro y7 h
    refine cn_then ?_
    refine run_ret ?_
    cases h
    exact (hend _ (by kernel_rfl)).2
abbrev field_Rank_ps : List Pk := [.row RLiiiE true, .row Ri false, .row Rii true]
abbrev field_Rank_X : Type := DLiiiE × Di × Dii × Unit
abbrev field_Rank_R : Type := Int × Int
def field_Rank_enc (r : field_Rank_R) : LV × List Ob := (.tup [.int .i64 r.1, .int .i64 r.2], [])
def field_Rank_sp (F : field_Rank_X → Option field_Rank_R) : Go.Tx.Spec := ⟨52, field_Rank_ps, field_Rank_R, F, field_Rank_enc⟩
abbrev field_Rank_C : Type := (field_Order_X → Option field_Order_R) × (slices_Index_int_int_X → Option slices_Index_int_int_R) × Unit
def field_Rank_K (d : Nat) : field_Rank_C := (F_field_Order d, F_slices_Index_int_int d, ())
def field_Rank_tab (C : field_Rank_C) : List Go.Tx.Spec := [field_Order_sp C.1, slices_Index_int_int_sp C.2.1]
abbrev field_Rank_Y0i : Type := List Diii × Int × Int × Int
def field_Rank_S0i (v : field_Rank_Y0i) : St := ⟨[(0, .agg [.fz Riii v.1]), (1, .int .i64 v.2.1), (2, .agg [.int .i64 v.2.2.1, .int .i64 v.2.2.2])], []⟩
abbrev field_Rank_Y0 : Type := Int × List Diii × Int × Int
def field_Rank_S0 (v : field_Rank_Y0) : St := ⟨[(1, .int .i64 v.1), (3, .ptr 0 0), (5, .ptr 1 0)], [.cells [.fz Riii v.2.1], .cells [.int .i64 v.2.2.1, .int .i64 v.2.2.2]]⟩
def field_Rank_r0 (C : field_Rank_C) (v : field_Rank_Y0i) : Dt field_Rank_Y0 := (Dt.ret (v.2.1, v.1, v.2.2.1, v.2.2.2))
theorem field_Rank_g0 (C : field_Rank_C) (v : field_Rank_Y0i) : treg tysT (orc (field_Rank_tab C)) 26 (regO (bodyOf f52) 0) false [(1, .any), (3, (.box [.val Riii])), (5, .any)] (field_Rank_S0i v) some = (field_Rank_r0 C v).eval fun y => some (field_Rank_S0 y) := by kernel_rfl
abbrev field_Rank_Y1 : Type := Int × Int × List Di
def field_Rank_S1 (v : field_Rank_Y1) : St := ⟨[(1, .int .i64 v.1), (8, .rs 0), (9, .int .i64 v.2.1)], [.rows Ri v.2.2]⟩
def field_Rank_r1 (C : field_Rank_C) (v : field_Rank_Y0) : Dt field_Rank_Y1 := (Dt.bnd (C.1 ((v.2.1, ()), (v.2.2.1, v.2.2.2, ()), ())) fun r1 => (Dt.ret (v.1, r1.2, r1.1)))
theorem field_Rank_g1 (C : field_Rank_C) (v : field_Rank_Y0) : treg tysT (orc (field_Rank_tab C)) 26 (regO (bodyOf f52) 1) false [(1, .any), (8, (.own Ri)), (9, .any)] (field_Rank_S0 v) some = (field_Rank_r1 C v).eval fun y => some (field_Rank_S1 y) := by kernel_rfl
abbrev field_Rank_Y2 : Type := Int × Int × Bool × List Di
def field_Rank_S2 (v : field_Rank_Y2) : St := ⟨[(1, .int .i64 v.1), (8, .rs 0), (9, .int .i64 v.2.1), (18, .bool v.2.2.1)], [.rows Ri v.2.2.2]⟩
def field_Rank_r2 (C : field_Rank_C) (v : field_Rank_Y1) : Dt field_Rank_Y2 := (Dt.ret (v.1, v.2.1, (v.2.1 != (0:Int)), v.2.2))
theorem field_Rank_g2 (C : field_Rank_C) (v : field_Rank_Y1) : treg tysT (orc (field_Rank_tab C)) 26 (regO (bodyOf f52) 2) false [(1, .any), (8, (.own Ri)), (9, .any), (18, .any)] (field_Rank_S1 v) some = (field_Rank_r2 C v).eval fun y => some (field_Rank_S2 y) := by kernel_rfl
abbrev field_Rank_Y3 : Type := Int × Int
def field_Rank_S3 (v : field_Rank_Y3) : St := ⟨[(6, .int .i64 v.1), (7, .int .i64 v.2)], []⟩
def field_Rank_r3 (C : field_Rank_C) (v : field_Rank_Y2) : Dt field_Rank_Y3 := (Dt.ret ((0:Int), v.2.1))
theorem field_Rank_g3 (C : field_Rank_C) (v : field_Rank_Y2) : treg tysT (orc (field_Rank_tab C)) 26 (regO (bodyOf f52) 3) false [(6, .any), (7, .any)] (field_Rank_S2 v) some = (field_Rank_r3 C v).eval fun y => some (field_Rank_S3 y) := by kernel_rfl
abbrev field_Rank_Y4 : Type := Int
def field_Rank_S4 (v : field_Rank_Y4) : St := ⟨[(10, .int .i64 v)], []⟩
def field_Rank_r4 (C : field_Rank_C) (v : field_Rank_Y2) : Dt field_Rank_Y4 := (Dt.bnd (C.2.1 ((v.2.2.2, ()), (v.1, ()), ())) fun r1 => (Dt.ret r1))
theorem field_Rank_g4 (C : field_Rank_C) (v : field_Rank_Y2) : treg tysT (orc (field_Rank_tab C)) 26 (regO (bodyOf f52) 4) false [(10, .any)] (field_Rank_S2 v) some = (field_Rank_r4 C v).eval fun y => some (field_Rank_S4 y) := by kernel_rfl
abbrev field_Rank_Y5 : Type := Int × Bool
def field_Rank_S5 (v : field_Rank_Y5) : St := ⟨[(10, .int .i64 v.1), (24, .bool v.2)], []⟩
def field_Rank_r5 (C : field_Rank_C) (v : field_Rank_Y4) : Dt field_Rank_Y5 := (Dt.ret (v, (decide (v < (0:Int)))))
theorem field_Rank_g5 (C : field_Rank_C) (v : field_Rank_Y4) : treg tysT (orc (field_Rank_tab C)) 26 (regO (bodyOf f52) 5) false [(10, .any), (24, .any)] (field_Rank_S4 v) some = (field_Rank_r5 C v).eval fun y => some (field_Rank_S5 y) := by kernel_rfl
def field_Rank_r6 (C : field_Rank_C) (v : field_Rank_Y5) : Dt field_Rank_Y3 := (Dt.ret ((0:Int), (6:Int)))
theorem field_Rank_g6 (C : field_Rank_C) (v : field_Rank_Y5) : treg tysT (orc (field_Rank_tab C)) 26 (regO (bodyOf f52) 6) false [(6, .any), (7, .any)] (field_Rank_S5 v) some = (field_Rank_r6 C v).eval fun y => some (field_Rank_S3 y) := by kernel_rfl
def field_Rank_r7 (C : field_Rank_C) (v : field_Rank_Y5) : Dt field_Rank_Y3 := (Dt.ret (v.1, (0:Int)))
theorem field_Rank_g7 (C : field_Rank_C) (v : field_Rank_Y5) : treg tysT (orc (field_Rank_tab C)) 26 (regO (bodyOf f52) 7) false [(6, .any), (7, .any)] (field_Rank_S5 v) some = (field_Rank_r7 C v).eval fun y => some (field_Rank_S3 y) := by kernel_rfl
def F_field_Rank (d : Nat) (x : field_Rank_X) : Option field_Rank_R :=
  (field_Rank_r0 (field_Rank_K d) (x.1.1, x.2.1.1, x.2.2.1.1, x.2.2.1.2.1)).eval fun y0 =>
  (field_Rank_r1 (field_Rank_K d) y0).eval fun y1 =>
  (field_Rank_r2 (field_Rank_K d) y1).eval fun y2 =>
  bif y2.2.2.1 then ((field_Rank_r3 (field_Rank_K d) y2).eval fun y3 =>
  some y3) else ((field_Rank_r4 (field_Rank_K d) y2).eval fun y4 =>
  (field_Rank_r5 (field_Rank_K d) y4).eval fun y5 =>
  bif y5.2 then ((field_Rank_r6 (field_Rank_K d) y5).eval fun y6 =>
  some y6) else ((field_Rank_r7 (field_Rank_K d) y5).eval fun y7 =>
  some y7))
theorem field_Rank_cok (d : Nat) : COK prog (field_Rank_sp (F_field_Rank d)) := by
  have hm : prog.follows .mixedOrders = true := mixed
  have hT := tys
  have hC0 : OrcOK prog (orc (field_Rank_tab (field_Rank_K d))) := orc_ok (by
    intro S hS
    simp only [field_Rank_tab, List.mem_cons, List.not_mem_nil, or_false] at hS
    rcases hS with rfl | rfl
    · exact field_Order_cok d
    · exact slices_Index_int_int_cok d)
  have hC : OrcOK prog (orc (field_Rank_tab (field_Rank_K d))) := hC0
  refine cok_of (c := bodyOf f52) (fn := f52) hT (by kernel_rfl) (by kernel_rfl) (by decide) fun x r h w0 φ0 Q hend => ?_
  replace h : F_field_Rank d x = some r := h
  unfold F_field_Rank at h
  show Run prog w0 φ0 26 (bodyOf f52) ⟨[(0, .agg [.fz Riii x.1.1]), (1, .int .i64 x.2.1.1), (2, .agg [.int .i64 x.2.2.1.1, .int .i64 x.2.2.1.2.1])], []⟩ Q
  refine run_seq ?_
  refine run_reg hm hT hC (field_Rank_g0 (field_Rank_K d) (x.1.1, x.2.1.1, x.2.2.1.1, x.2.2.1.2.1)) h ?_
  intro y0 h
  refine cn_then ?_
  refine run_seq ?_
  refine run_reg hm hT hC (field_Rank_g1 (field_Rank_K d) y0) h ?_
  intro y1 h
  refine cn_then ?_
  refine run_seq ?_
  refine run_seq ?_
  refine run_reg hm hT hC (field_Rank_g2 (field_Rank_K d) y1) h ?_
  intro y2 h
  refine cn_then ?_
  refine run_cond (v := y2.2.2.1) (by kernel_rfl) h ?_ ?_
  ·
    intro h
    refine run_seq ?_
    refine run_reg hm hT hC (field_Rank_g3 (field_Rank_K d) y2) h ?_
    intro y3 h
    refine cn_then ?_
    refine run_ret ?_
    refine cn_then_ret ?_
    cases h
    exact (hend _ (by kernel_rfl)).2
  ·
    intro h
    refine run_skip ?_
    refine cn_then ?_
    refine run_seq ?_
    refine run_reg hm hT hC (field_Rank_g4 (field_Rank_K d) y2) h ?_
    intro y4 h
    refine cn_then ?_
    refine run_seq ?_
    refine run_seq ?_
    refine run_reg hm hT hC (field_Rank_g5 (field_Rank_K d) y4) h ?_
    intro y5 h
    refine cn_then ?_
    refine run_cond (v := y5.2) (by kernel_rfl) h ?_ ?_
    ·
      intro h
      refine run_seq ?_
      refine run_reg hm hT hC (field_Rank_g6 (field_Rank_K d) y5) h ?_
      intro y6 h
      refine cn_then ?_
      refine run_ret ?_
      refine cn_then_ret ?_
      cases h
      exact (hend _ (by kernel_rfl)).2
    ·
      intro h
      refine run_skip ?_
      refine cn_then ?_
      refine run_seq ?_
      refine run_reg hm hT hC (field_Rank_g7 (field_Rank_K d) y5) h ?_
      intro y7 h
      refine cn_then ?_
      refine run_ret ?_
      cases h
      exact (hend _ (by kernel_rfl)).2
abbrev chase_check_ps : List Pk := [.row RLiiiE true, .row Ri false, .row Rii true, .row Ri false]
abbrev chase_check_X : Type := DLiiiE × Di × Dii × Di × Unit
abbrev chase_check_R : Type := Int
def chase_check_enc (r : chase_check_R) : LV × List Ob := (.int .i64 r, [])
def chase_check_sp (F : chase_check_X → Option chase_check_R) : Go.Tx.Spec := ⟨71, chase_check_ps, chase_check_R, F, chase_check_enc⟩
abbrev chase_check_C : Type := (field_Rank_X → Option field_Rank_R) × Unit
def chase_check_K (d : Nat) : chase_check_C := (F_field_Rank d, ())
def chase_check_tab (C : chase_check_C) : List Go.Tx.Spec := [field_Rank_sp C.1]
abbrev chase_check_Y0i : Type := List Diii × Int × Int × Int × Int
def chase_check_S0i (v : chase_check_Y0i) : St := ⟨[(0, .agg [.fz Riii v.1]), (1, .int .i64 v.2.1), (2, .agg [.int .i64 v.2.2.1, .int .i64 v.2.2.2.1]), (3, .int .i64 v.2.2.2.2)], []⟩
abbrev chase_check_Y0 : Type := Int × Int × List Diii × Int × Int
def chase_check_S0 (v : chase_check_Y0) : St := ⟨[(1, .int .i64 v.1), (3, .int .i64 v.2.1), (4, .ptr 0 0), (6, .ptr 1 0)], [.cells [.fz Riii v.2.2.1], .cells [.int .i64 v.2.2.2.1, .int .i64 v.2.2.2.2]]⟩
def chase_check_r0 (C : chase_check_C) (v : chase_check_Y0i) : Dt chase_check_Y0 := (Dt.ret (v.2.1, v.2.2.2.2, v.1, v.2.2.1, v.2.2.2.1))
theorem chase_check_g0 (C : chase_check_C) (v : chase_check_Y0i) : treg tysT (orc (chase_check_tab C)) 32 (regO (bodyOf f71) 0) false [(1, .any), (3, .any), (4, (.box [.val Riii])), (6, .any)] (chase_check_S0i v) some = (chase_check_r0 C v).eval fun y => some (chase_check_S0 y) := by kernel_rfl
abbrev chase_check_Y1 : Type := Int × Int
def chase_check_S1 (v : chase_check_Y1) : St := ⟨[(3, .int .i64 v.1), (10, .int .i64 v.2)], []⟩
def chase_check_r1 (C : chase_check_C) (v : chase_check_Y0) : Dt chase_check_Y1 := (Dt.bnd (C.1 ((v.2.2.1, ()), (v.1, ()), (v.2.2.2.1, v.2.2.2.2, ()), ())) fun r1 => (Dt.ret (v.2.1, r1.2)))
theorem chase_check_g1 (C : chase_check_C) (v : chase_check_Y0) : treg tysT (orc (chase_check_tab C)) 32 (regO (bodyOf f71) 1) false [(3, .any), (10, .any)] (chase_check_S0 v) some = (chase_check_r1 C v).eval fun y => some (chase_check_S1 y) := by kernel_rfl
abbrev chase_check_Y2 : Type := Int × Int × Bool
def chase_check_S2 (v : chase_check_Y2) : St := ⟨[(3, .int .i64 v.1), (10, .int .i64 v.2.1), (23, .bool v.2.2)], []⟩
def chase_check_r2 (C : chase_check_C) (v : chase_check_Y1) : Dt chase_check_Y2 := (Dt.ite (v.2 != (0:Int)) (Dt.ret (v.1, v.2, (v.2 != (6:Int)))) (Dt.ret (v.1, v.2, false)))
theorem chase_check_g2 (C : chase_check_C) (v : chase_check_Y1) : treg tysT (orc (chase_check_tab C)) 32 (regO (bodyOf f71) 2) false [(3, .any), (10, .any), (23, .any)] (chase_check_S1 v) some = (chase_check_r2 C v).eval fun y => some (chase_check_S2 y) := by kernel_rfl
abbrev chase_check_Y3 : Type := Int
def chase_check_S3 (v : chase_check_Y3) : St := ⟨[(8, .int .i64 v)], []⟩
def chase_check_r3 (C : chase_check_C) (v : chase_check_Y2) : Dt chase_check_Y3 := (Dt.ret v.2.1)
theorem chase_check_g3 (C : chase_check_C) (v : chase_check_Y2) : treg tysT (orc (chase_check_tab C)) 32 (regO (bodyOf f71) 3) false [(8, .any)] (chase_check_S2 v) some = (chase_check_r3 C v).eval fun y => some (chase_check_S3 y) := by kernel_rfl
abbrev chase_check_Y4 : Type := Int × Bool
def chase_check_S4 (v : chase_check_Y4) : St := ⟨[(10, .int .i64 v.1), (30, .bool v.2)], []⟩
def chase_check_r4 (C : chase_check_C) (v : chase_check_Y2) : Dt chase_check_Y4 := (Dt.ite (decide (v.1 < (0:Int))) (Dt.ret (v.2.1, true)) (Dt.ret (v.2.1, (decide (v.1 > (64:Int))))))
theorem chase_check_g4 (C : chase_check_C) (v : chase_check_Y2) : treg tysT (orc (chase_check_tab C)) 32 (regO (bodyOf f71) 4) false [(10, .any), (30, .any)] (chase_check_S2 v) some = (chase_check_r4 C v).eval fun y => some (chase_check_S4 y) := by kernel_rfl
def chase_check_r5 (C : chase_check_C) (v : chase_check_Y4) : Dt chase_check_Y3 := (Dt.ret (2:Int))
theorem chase_check_g5 (C : chase_check_C) (v : chase_check_Y4) : treg tysT (orc (chase_check_tab C)) 32 (regO (bodyOf f71) 5) false [(8, .any)] (chase_check_S4 v) some = (chase_check_r5 C v).eval fun y => some (chase_check_S3 y) := by kernel_rfl
def chase_check_r6 (C : chase_check_C) (v : chase_check_Y4) : Dt chase_check_Y3 := (Dt.ret v.1)
theorem chase_check_g6 (C : chase_check_C) (v : chase_check_Y4) : treg tysT (orc (chase_check_tab C)) 32 (regO (bodyOf f71) 6) false [(8, .any)] (chase_check_S4 v) some = (chase_check_r6 C v).eval fun y => some (chase_check_S3 y) := by kernel_rfl
def F_chase_check (d : Nat) (x : chase_check_X) : Option chase_check_R :=
  (chase_check_r0 (chase_check_K d) (x.1.1, x.2.1.1, x.2.2.1.1, x.2.2.1.2.1, x.2.2.2.1.1)).eval fun y0 =>
  (chase_check_r1 (chase_check_K d) y0).eval fun y1 =>
  (chase_check_r2 (chase_check_K d) y1).eval fun y2 =>
  bif y2.2.2 then ((chase_check_r3 (chase_check_K d) y2).eval fun y3 =>
  some y3) else ((chase_check_r4 (chase_check_K d) y2).eval fun y4 =>
  bif y4.2 then ((chase_check_r5 (chase_check_K d) y4).eval fun y5 =>
  some y5) else ((chase_check_r6 (chase_check_K d) y4).eval fun y6 =>
  some y6))
theorem chase_check_cok (d : Nat) : COK prog (chase_check_sp (F_chase_check d)) := by
  have hm : prog.follows .mixedOrders = true := mixed
  have hT := tys
  have hC0 : OrcOK prog (orc (chase_check_tab (chase_check_K d))) := orc_ok (by
    intro S hS
    simp only [chase_check_tab, List.mem_cons, List.not_mem_nil, or_false] at hS
    subst hS; exact field_Rank_cok d)
  have hC : OrcOK prog (orc (chase_check_tab (chase_check_K d))) := hC0
  refine cok_of (c := bodyOf f71) (fn := f71) hT (by kernel_rfl) (by kernel_rfl) (by decide) fun x r h w0 φ0 Q hend => ?_
  replace h : F_chase_check d x = some r := h
  unfold F_chase_check at h
  show Run prog w0 φ0 32 (bodyOf f71) ⟨[(0, .agg [.fz Riii x.1.1]), (1, .int .i64 x.2.1.1), (2, .agg [.int .i64 x.2.2.1.1, .int .i64 x.2.2.1.2.1]), (3, .int .i64 x.2.2.2.1.1)], []⟩ Q
  refine run_seq ?_
  refine run_reg hm hT hC (chase_check_g0 (chase_check_K d) (x.1.1, x.2.1.1, x.2.2.1.1, x.2.2.1.2.1, x.2.2.2.1.1)) h ?_
  intro y0 h
  refine cn_then ?_
  refine run_seq ?_
  refine run_reg hm hT hC (chase_check_g1 (chase_check_K d) y0) h ?_
  intro y1 h
  refine cn_then ?_
  refine run_seq ?_
  refine run_seq ?_
  refine run_reg hm hT hC (chase_check_g2 (chase_check_K d) y1) h ?_
  intro y2 h
  refine cn_then ?_
  refine run_cond (v := y2.2.2) (by kernel_rfl) h ?_ ?_
  ·
    intro h
    refine run_seq ?_
    refine run_reg hm hT hC (chase_check_g3 (chase_check_K d) y2) h ?_
    intro y3 h
    refine cn_then ?_
    refine run_ret ?_
    refine cn_then_ret ?_
    cases h
    exact (hend _ (by kernel_rfl)).2
  ·
    intro h
    refine run_skip ?_
    refine cn_then ?_
    refine run_seq ?_
    refine run_seq ?_
    refine run_reg hm hT hC (chase_check_g4 (chase_check_K d) y2) h ?_
    intro y4 h
    refine cn_then ?_
    refine run_cond (v := y4.2) (by kernel_rfl) h ?_ ?_
    ·
      intro h
      refine run_seq ?_
      refine run_reg hm hT hC (chase_check_g5 (chase_check_K d) y4) h ?_
      intro y5 h
      refine cn_then ?_
      refine run_ret ?_
      refine cn_then_ret ?_
      cases h
      exact (hend _ (by kernel_rfl)).2
    ·
      intro h
      refine run_skip ?_
      refine cn_then ?_
      refine run_seq ?_
      refine run_reg hm hT hC (chase_check_g6 (chase_check_K d) y4) h ?_
      intro y6 h
      refine cn_then ?_
      refine run_ret ?_
      cases h
      exact (hend _ (by kernel_rfl)).2
abbrev chase_other_ps : List Pk := [.row Riiii true, .row Ri false]
abbrev chase_other_X : Type := Diiii × Di × Unit
abbrev chase_other_R : Type := Int
def chase_other_enc (r : chase_other_R) : LV × List Ob := (.int .i64 r, [])
def chase_other_sp (F : chase_other_X → Option chase_other_R) : Go.Tx.Spec := ⟨74, chase_other_ps, chase_other_R, F, chase_other_enc⟩
abbrev chase_other_C : Type := Unit
def chase_other_K (_d : Nat) : chase_other_C := ()
def chase_other_tab (C : chase_other_C) : List Go.Tx.Spec := []
abbrev chase_other_Y0i : Type := Int × Int × Int × Int × Int
def chase_other_S0i (v : chase_other_Y0i) : St := ⟨[(0, .agg [.int .i64 v.1, .int .i64 v.2.1, .int .i64 v.2.2.1, .int .i64 v.2.2.2.1]), (1, .int .i64 v.2.2.2.2)], []⟩
abbrev chase_other_Y0 : Type := Int × Int × Int × Int × Int
def chase_other_S0 (v : chase_other_Y0) : St := ⟨[(1, .int .i64 v.1), (2, .ptr 0 0)], [.cells [.int .i64 v.2.1, .int .i64 v.2.2.1, .int .i64 v.2.2.2.1, .int .i64 v.2.2.2.2]]⟩
def chase_other_r0 (C : chase_other_C) (v : chase_other_Y0i) : Dt chase_other_Y0 := (Dt.ret (v.2.2.2.2, v.1, v.2.1, v.2.2.1, v.2.2.2.1))
theorem chase_other_g0 (C : chase_other_C) (v : chase_other_Y0i) : treg tysT (orc (chase_other_tab C)) 19 (regO (bodyOf f74) 0) false [(1, .any), (2, .any)] (chase_other_S0i v) some = (chase_other_r0 C v).eval fun y => some (chase_other_S0 y) := by kernel_rfl
abbrev chase_other_Y1 : Type := Int × Int × Int
def chase_other_S1 (v : chase_other_Y1) : St := ⟨[(1, .int .i64 v.1), (5, .ptr 0 0)], [.cells [.int .i64 v.2.1, .int .i64 v.2.2]]⟩
def chase_other_r1 (C : chase_other_C) (v : chase_other_Y0) : Dt chase_other_Y1 := (Dt.ret (v.1, v.2.2.2.1, v.2.2.2.2))
theorem chase_other_g1 (C : chase_other_C) (v : chase_other_Y0) : treg tysT (orc (chase_other_tab C)) 19 (regO (bodyOf f74) 1) false [(1, .any), (5, .any)] (chase_other_S0 v) some = (chase_other_r1 C v).eval fun y => some (chase_other_S1 y) := by kernel_rfl
abbrev chase_other_Y2 : Type := Bool × Int × Int
def chase_other_S2 (v : chase_other_Y2) : St := ⟨[(5, .ptr 0 0), (14, .bool v.1)], [.cells [.int .i64 v.2.1, .int .i64 v.2.2]]⟩
def chase_other_r2 (C : chase_other_C) (v : chase_other_Y1) : Dt chase_other_Y2 := (Dt.ret ((v.2.1 == v.1), v.2.1, v.2.2))
theorem chase_other_g2 (C : chase_other_C) (v : chase_other_Y1) : treg tysT (orc (chase_other_tab C)) 19 (regO (bodyOf f74) 2) false [(5, .any), (14, .any)] (chase_other_S1 v) some = (chase_other_r2 C v).eval fun y => some (chase_other_S2 y) := by kernel_rfl
abbrev chase_other_Y3 : Type := Int
def chase_other_S3 (v : chase_other_Y3) : St := ⟨[(4, .int .i64 v)], []⟩
def chase_other_r3 (C : chase_other_C) (v : chase_other_Y2) : Dt chase_other_Y3 := (Dt.ret v.2.2)
theorem chase_other_g3 (C : chase_other_C) (v : chase_other_Y2) : treg tysT (orc (chase_other_tab C)) 19 (regO (bodyOf f74) 3) false [(4, .any)] (chase_other_S2 v) some = (chase_other_r3 C v).eval fun y => some (chase_other_S3 y) := by kernel_rfl
def chase_other_r4 (C : chase_other_C) (v : chase_other_Y2) : Dt chase_other_Y3 := (Dt.ret v.2.1)
theorem chase_other_g4 (C : chase_other_C) (v : chase_other_Y2) : treg tysT (orc (chase_other_tab C)) 19 (regO (bodyOf f74) 4) false [(4, .any)] (chase_other_S2 v) some = (chase_other_r4 C v).eval fun y => some (chase_other_S3 y) := by kernel_rfl
def F_chase_other (d : Nat) (x : chase_other_X) : Option chase_other_R :=
  (chase_other_r0 (chase_other_K d) (x.1.1, x.1.2.1, x.1.2.2.1, x.1.2.2.2.1, x.2.1.1)).eval fun y0 =>
  (chase_other_r1 (chase_other_K d) y0).eval fun y1 =>
  (chase_other_r2 (chase_other_K d) y1).eval fun y2 =>
  bif y2.1 then ((chase_other_r3 (chase_other_K d) y2).eval fun y3 =>
  some y3) else ((chase_other_r4 (chase_other_K d) y2).eval fun y4 =>
  some y4)
theorem chase_other_cok (d : Nat) : COK prog (chase_other_sp (F_chase_other d)) := by
  have hm : prog.follows .mixedOrders = true := mixed
  have hT := tys
  have hC0 : OrcOK prog (orc (chase_other_tab (chase_other_K d))) := orc_ok (by
    intro S hS
    simp only [chase_other_tab, List.mem_cons, List.not_mem_nil, or_false] at hS
    all_goals first | cases hS | exact hS.elim)
  have hC : OrcOK prog (orc (chase_other_tab (chase_other_K d))) := hC0
  refine cok_of (c := bodyOf f74) (fn := f74) hT (by kernel_rfl) (by kernel_rfl) (by decide) fun x r h w0 φ0 Q hend => ?_
  replace h : F_chase_other d x = some r := h
  unfold F_chase_other at h
  show Run prog w0 φ0 19 (bodyOf f74) ⟨[(0, .agg [.int .i64 x.1.1, .int .i64 x.1.2.1, .int .i64 x.1.2.2.1, .int .i64 x.1.2.2.2.1]), (1, .int .i64 x.2.1.1)], []⟩ Q
  refine run_seq ?_
  refine run_reg hm hT hC (chase_other_g0 (chase_other_K d) (x.1.1, x.1.2.1, x.1.2.2.1, x.1.2.2.2.1, x.2.1.1)) h ?_
  intro y0 h
  refine cn_then ?_
  refine run_seq ?_
  refine run_reg hm hT hC (chase_other_g1 (chase_other_K d) y0) h ?_
  intro y1 h
  refine cn_then ?_
  refine run_seq ?_
  refine run_seq ?_
  refine run_reg hm hT hC (chase_other_g2 (chase_other_K d) y1) h ?_
  intro y2 h
  refine cn_then ?_
  refine run_cond (v := y2.1) (by kernel_rfl) h ?_ ?_
  ·
    intro h
    refine run_seq ?_
    refine run_reg hm hT hC (chase_other_g3 (chase_other_K d) y2) h ?_
    intro y3 h
    refine cn_then ?_
    refine run_ret ?_
    refine cn_then_ret ?_
    cases h
    exact (hend _ (by kernel_rfl)).2
  ·
    intro h
    refine run_skip ?_
    refine cn_then ?_
    refine run_seq ?_
    refine run_reg hm hT hC (chase_other_g4 (chase_other_K d) y2) h ?_
    intro y4 h
    refine cn_then ?_
    refine run_ret ?_
    cases h
    exact (hend _ (by kernel_rfl)).2
abbrev cmp_isNaN_int_ps : List Pk := [.row Ri false]
abbrev cmp_isNaN_int_X : Type := Di × Unit
abbrev cmp_isNaN_int_R : Type := Bool
def cmp_isNaN_int_enc (r : cmp_isNaN_int_R) : LV × List Ob := (.bool r, [])
def cmp_isNaN_int_sp (F : cmp_isNaN_int_X → Option cmp_isNaN_int_R) : Go.Tx.Spec := ⟨119, cmp_isNaN_int_ps, cmp_isNaN_int_R, F, cmp_isNaN_int_enc⟩
abbrev cmp_isNaN_int_C : Type := Unit
def cmp_isNaN_int_K (_d : Nat) : cmp_isNaN_int_C := ()
def cmp_isNaN_int_tab (C : cmp_isNaN_int_C) : List Go.Tx.Spec := []
abbrev cmp_isNaN_int_Y0i : Type := Int
def cmp_isNaN_int_S0i (v : cmp_isNaN_int_Y0i) : St := ⟨[(0, .int .i64 v)], []⟩
def cmp_isNaN_int_r0 (C : cmp_isNaN_int_C) (v : cmp_isNaN_int_Y0i) : Dt cmp_isNaN_int_Y0i := (Dt.ret v)
theorem cmp_isNaN_int_g0 (C : cmp_isNaN_int_C) (v : cmp_isNaN_int_Y0i) : treg tysT (orc (cmp_isNaN_int_tab C)) 6 (regO (bodyOf f119) 0) false [(0, .any)] (cmp_isNaN_int_S0i v) some = (cmp_isNaN_int_r0 C v).eval fun y => some (cmp_isNaN_int_S0i y) := by kernel_rfl
abbrev cmp_isNaN_int_Y1 : Type := Bool
def cmp_isNaN_int_S1 (v : cmp_isNaN_int_Y1) : St := ⟨[(2, .bool v)], []⟩
def cmp_isNaN_int_r1 (C : cmp_isNaN_int_C) (v : cmp_isNaN_int_Y0i) : Dt cmp_isNaN_int_Y1 := (Dt.ret (v != v))
theorem cmp_isNaN_int_g1 (C : cmp_isNaN_int_C) (v : cmp_isNaN_int_Y0i) : treg tysT (orc (cmp_isNaN_int_tab C)) 6 (regO (bodyOf f119) 1) false [(2, .any)] (cmp_isNaN_int_S0i v) some = (cmp_isNaN_int_r1 C v).eval fun y => some (cmp_isNaN_int_S1 y) := by kernel_rfl
def F_cmp_isNaN_int (d : Nat) (x : cmp_isNaN_int_X) : Option cmp_isNaN_int_R :=
  (cmp_isNaN_int_r0 (cmp_isNaN_int_K d) x.1.1).eval fun y0 =>
  (cmp_isNaN_int_r1 (cmp_isNaN_int_K d) y0).eval fun y1 =>
  some y1
theorem cmp_isNaN_int_cok (d : Nat) : COK prog (cmp_isNaN_int_sp (F_cmp_isNaN_int d)) := by
  have hm : prog.follows .mixedOrders = true := mixed
  have hT := tys
  have hC0 : OrcOK prog (orc (cmp_isNaN_int_tab (cmp_isNaN_int_K d))) := orc_ok (by
    intro S hS
    simp only [cmp_isNaN_int_tab, List.mem_cons, List.not_mem_nil, or_false] at hS
    all_goals first | cases hS | exact hS.elim)
  have hC : OrcOK prog (orc (cmp_isNaN_int_tab (cmp_isNaN_int_K d))) := hC0
  refine cok_of (c := bodyOf f119) (fn := f119) hT (by kernel_rfl) (by kernel_rfl) (by decide) fun x r h w0 φ0 Q hend => ?_
  replace h : F_cmp_isNaN_int d x = some r := h
  unfold F_cmp_isNaN_int at h
  show Run prog w0 φ0 6 (bodyOf f119) ⟨[(0, .int .i64 x.1.1)], []⟩ Q
  refine run_seq ?_
  refine run_reg hm hT hC (cmp_isNaN_int_g0 (cmp_isNaN_int_K d) x.1.1) h ?_
  intro y0 h
  refine cn_then ?_
  refine run_seq ?_
  refine run_reg hm hT hC (cmp_isNaN_int_g1 (cmp_isNaN_int_K d) y0) h ?_
  intro y1 h
  refine cn_then ?_
  refine run_ret ?_
  cases h
  exact (hend _ (by kernel_rfl)).2
abbrev cmp_Compare_int_ps : List Pk := [.row Ri false, .row Ri false]
abbrev cmp_Compare_int_X : Type := Di × Di × Unit
abbrev cmp_Compare_int_R : Type := Int
def cmp_Compare_int_enc (r : cmp_Compare_int_R) : LV × List Ob := (.int .i64 r, [])
def cmp_Compare_int_sp (F : cmp_Compare_int_X → Option cmp_Compare_int_R) : Go.Tx.Spec := ⟨90, cmp_Compare_int_ps, cmp_Compare_int_R, F, cmp_Compare_int_enc⟩
abbrev cmp_Compare_int_C : Type := (cmp_isNaN_int_X → Option cmp_isNaN_int_R) × Unit
def cmp_Compare_int_K (d : Nat) : cmp_Compare_int_C := (F_cmp_isNaN_int d, ())
def cmp_Compare_int_tab (C : cmp_Compare_int_C) : List Go.Tx.Spec := [cmp_isNaN_int_sp C.1]
abbrev cmp_Compare_int_Y0i : Type := Int × Int
def cmp_Compare_int_S0i (v : cmp_Compare_int_Y0i) : St := ⟨[(0, .int .i64 v.1), (1, .int .i64 v.2)], []⟩
def cmp_Compare_int_r0 (C : cmp_Compare_int_C) (v : cmp_Compare_int_Y0i) : Dt cmp_Compare_int_Y0i := (Dt.ret (v.1, v.2))
theorem cmp_Compare_int_g0 (C : cmp_Compare_int_C) (v : cmp_Compare_int_Y0i) : treg tysT (orc (cmp_Compare_int_tab C)) 20 (regO (bodyOf f90) 0) false [(0, .any), (1, .any)] (cmp_Compare_int_S0i v) some = (cmp_Compare_int_r0 C v).eval fun y => some (cmp_Compare_int_S0i y) := by kernel_rfl
abbrev cmp_Compare_int_Y1 : Type := Int × Int × Bool
def cmp_Compare_int_S1 (v : cmp_Compare_int_Y1) : St := ⟨[(0, .int .i64 v.1), (1, .int .i64 v.2.1), (5, .bool v.2.2)], []⟩
def cmp_Compare_int_r1 (C : cmp_Compare_int_C) (v : cmp_Compare_int_Y0i) : Dt cmp_Compare_int_Y1 := (Dt.bnd (C.1 ((v.1, ()), ())) fun r1 => (Dt.ret (v.1, v.2, r1)))
theorem cmp_Compare_int_g1 (C : cmp_Compare_int_C) (v : cmp_Compare_int_Y0i) : treg tysT (orc (cmp_Compare_int_tab C)) 20 (regO (bodyOf f90) 1) false [(0, .any), (1, .any), (5, .any)] (cmp_Compare_int_S0i v) some = (cmp_Compare_int_r1 C v).eval fun y => some (cmp_Compare_int_S1 y) := by kernel_rfl
abbrev cmp_Compare_int_Y2 : Type := Int × Int × Bool × Bool
def cmp_Compare_int_S2 (v : cmp_Compare_int_Y2) : St := ⟨[(0, .int .i64 v.1), (1, .int .i64 v.2.1), (5, .bool v.2.2.1), (6, .bool v.2.2.2)], []⟩
def cmp_Compare_int_r2 (C : cmp_Compare_int_C) (v : cmp_Compare_int_Y1) : Dt cmp_Compare_int_Y2 := (Dt.bnd (C.1 ((v.2.1, ()), ())) fun r1 => (Dt.ret (v.1, v.2.1, v.2.2, r1)))
theorem cmp_Compare_int_g2 (C : cmp_Compare_int_C) (v : cmp_Compare_int_Y1) : treg tysT (orc (cmp_Compare_int_tab C)) 20 (regO (bodyOf f90) 2) false [(0, .any), (1, .any), (5, .any), (6, .any)] (cmp_Compare_int_S1 v) some = (cmp_Compare_int_r2 C v).eval fun y => some (cmp_Compare_int_S2 y) := by kernel_rfl
abbrev cmp_Compare_int_Y3 : Type := Int × Int × Bool × Bool
def cmp_Compare_int_S3 (v : cmp_Compare_int_Y3) : St := ⟨[(0, .int .i64 v.1), (1, .int .i64 v.2.1), (6, .bool v.2.2.1), (11, .bool v.2.2.2)], []⟩
def cmp_Compare_int_r3 (C : cmp_Compare_int_C) (v : cmp_Compare_int_Y2) : Dt cmp_Compare_int_Y3 := (Dt.ret (v.1, v.2.1, v.2.2.2, v.2.2.1))
theorem cmp_Compare_int_g3 (C : cmp_Compare_int_C) (v : cmp_Compare_int_Y2) : treg tysT (orc (cmp_Compare_int_tab C)) 20 (regO (bodyOf f90) 3) false [(0, .any), (1, .any), (6, .any), (11, .any)] (cmp_Compare_int_S2 v) some = (cmp_Compare_int_r3 C v).eval fun y => some (cmp_Compare_int_S3 y) := by kernel_rfl
abbrev cmp_Compare_int_Y4 : Type := Bool
def cmp_Compare_int_S4 (v : cmp_Compare_int_Y4) : St := ⟨[(12, .bool v)], []⟩
def cmp_Compare_int_r4 (C : cmp_Compare_int_C) (v : cmp_Compare_int_Y3) : Dt cmp_Compare_int_Y4 := (Dt.ret v.2.2.1)
theorem cmp_Compare_int_g4 (C : cmp_Compare_int_C) (v : cmp_Compare_int_Y3) : treg tysT (orc (cmp_Compare_int_tab C)) 20 (regO (bodyOf f90) 4) false [(12, .any)] (cmp_Compare_int_S3 v) some = (cmp_Compare_int_r4 C v).eval fun y => some (cmp_Compare_int_S4 y) := by kernel_rfl
abbrev cmp_Compare_int_Y5 : Type := Int
def cmp_Compare_int_S5 (v : cmp_Compare_int_Y5) : St := ⟨[(4, .int .i64 v)], []⟩
def cmp_Compare_int_r5 (C : cmp_Compare_int_C) (v : cmp_Compare_int_Y4) : Dt cmp_Compare_int_Y5 := (Dt.ret (0:Int))
theorem cmp_Compare_int_g5 (C : cmp_Compare_int_C) (v : cmp_Compare_int_Y4) : treg tysT (orc (cmp_Compare_int_tab C)) 20 (regO (bodyOf f90) 5) false [(4, .any)] (cmp_Compare_int_S4 v) some = (cmp_Compare_int_r5 C v).eval fun y => some (cmp_Compare_int_S5 y) := by kernel_rfl
def cmp_Compare_int_r6 (C : cmp_Compare_int_C) (v : cmp_Compare_int_Y4) : Dt cmp_Compare_int_Y5 := (Dt.ret (-1:Int))
theorem cmp_Compare_int_g6 (C : cmp_Compare_int_C) (v : cmp_Compare_int_Y4) : treg tysT (orc (cmp_Compare_int_tab C)) 20 (regO (bodyOf f90) 6) false [(4, .any)] (cmp_Compare_int_S4 v) some = (cmp_Compare_int_r6 C v).eval fun y => some (cmp_Compare_int_S5 y) := by kernel_rfl
abbrev cmp_Compare_int_Y7 : Type := Int × Int × Bool
def cmp_Compare_int_S7 (v : cmp_Compare_int_Y7) : St := ⟨[(0, .int .i64 v.1), (1, .int .i64 v.2.1), (13, .bool v.2.2)], []⟩
def cmp_Compare_int_r7 (C : cmp_Compare_int_C) (v : cmp_Compare_int_Y3) : Dt cmp_Compare_int_Y7 := (Dt.ret (v.1, v.2.1, v.2.2.1))
theorem cmp_Compare_int_g7 (C : cmp_Compare_int_C) (v : cmp_Compare_int_Y3) : treg tysT (orc (cmp_Compare_int_tab C)) 20 (regO (bodyOf f90) 7) false [(0, .any), (1, .any), (13, .any)] (cmp_Compare_int_S3 v) some = (cmp_Compare_int_r7 C v).eval fun y => some (cmp_Compare_int_S7 y) := by kernel_rfl
def cmp_Compare_int_r8 (C : cmp_Compare_int_C) (v : cmp_Compare_int_Y7) : Dt cmp_Compare_int_Y5 := (Dt.ret (1:Int))
theorem cmp_Compare_int_g8 (C : cmp_Compare_int_C) (v : cmp_Compare_int_Y7) : treg tysT (orc (cmp_Compare_int_tab C)) 20 (regO (bodyOf f90) 8) false [(4, .any)] (cmp_Compare_int_S7 v) some = (cmp_Compare_int_r8 C v).eval fun y => some (cmp_Compare_int_S5 y) := by kernel_rfl
abbrev cmp_Compare_int_Y9 : Type := Int × Int × Bool
def cmp_Compare_int_S9 (v : cmp_Compare_int_Y9) : St := ⟨[(0, .int .i64 v.1), (1, .int .i64 v.2.1), (16, .bool v.2.2)], []⟩
def cmp_Compare_int_r9 (C : cmp_Compare_int_C) (v : cmp_Compare_int_Y7) : Dt cmp_Compare_int_Y9 := (Dt.ret (v.1, v.2.1, (decide (v.1 < v.2.1))))
theorem cmp_Compare_int_g9 (C : cmp_Compare_int_C) (v : cmp_Compare_int_Y7) : treg tysT (orc (cmp_Compare_int_tab C)) 20 (regO (bodyOf f90) 9) false [(0, .any), (1, .any), (16, .any)] (cmp_Compare_int_S7 v) some = (cmp_Compare_int_r9 C v).eval fun y => some (cmp_Compare_int_S9 y) := by kernel_rfl
def cmp_Compare_int_r10 (C : cmp_Compare_int_C) (v : cmp_Compare_int_Y9) : Dt cmp_Compare_int_Y5 := (Dt.ret (-1:Int))
theorem cmp_Compare_int_g10 (C : cmp_Compare_int_C) (v : cmp_Compare_int_Y9) : treg tysT (orc (cmp_Compare_int_tab C)) 20 (regO (bodyOf f90) 10) false [(4, .any)] (cmp_Compare_int_S9 v) some = (cmp_Compare_int_r10 C v).eval fun y => some (cmp_Compare_int_S5 y) := by kernel_rfl
abbrev cmp_Compare_int_Y11 : Type := Bool
def cmp_Compare_int_S11 (v : cmp_Compare_int_Y11) : St := ⟨[(19, .bool v)], []⟩
def cmp_Compare_int_r11 (C : cmp_Compare_int_C) (v : cmp_Compare_int_Y9) : Dt cmp_Compare_int_Y11 := (Dt.ret (decide (v.1 > v.2.1)))
theorem cmp_Compare_int_g11 (C : cmp_Compare_int_C) (v : cmp_Compare_int_Y9) : treg tysT (orc (cmp_Compare_int_tab C)) 20 (regO (bodyOf f90) 11) false [(19, .any)] (cmp_Compare_int_S9 v) some = (cmp_Compare_int_r11 C v).eval fun y => some (cmp_Compare_int_S11 y) := by kernel_rfl
def cmp_Compare_int_r12 (C : cmp_Compare_int_C) (v : cmp_Compare_int_Y11) : Dt cmp_Compare_int_Y5 := (Dt.ret (1:Int))
theorem cmp_Compare_int_g12 (C : cmp_Compare_int_C) (v : cmp_Compare_int_Y11) : treg tysT (orc (cmp_Compare_int_tab C)) 20 (regO (bodyOf f90) 12) false [(4, .any)] (cmp_Compare_int_S11 v) some = (cmp_Compare_int_r12 C v).eval fun y => some (cmp_Compare_int_S5 y) := by kernel_rfl
def cmp_Compare_int_r13 (C : cmp_Compare_int_C) (v : cmp_Compare_int_Y11) : Dt cmp_Compare_int_Y5 := (Dt.ret (0:Int))
theorem cmp_Compare_int_g13 (C : cmp_Compare_int_C) (v : cmp_Compare_int_Y11) : treg tysT (orc (cmp_Compare_int_tab C)) 20 (regO (bodyOf f90) 13) false [(4, .any)] (cmp_Compare_int_S11 v) some = (cmp_Compare_int_r13 C v).eval fun y => some (cmp_Compare_int_S5 y) := by kernel_rfl
def F_cmp_Compare_int (d : Nat) (x : cmp_Compare_int_X) : Option cmp_Compare_int_R :=
  (cmp_Compare_int_r0 (cmp_Compare_int_K d) (x.1.1, x.2.1.1)).eval fun y0 =>
  (cmp_Compare_int_r1 (cmp_Compare_int_K d) y0).eval fun y1 =>
  (cmp_Compare_int_r2 (cmp_Compare_int_K d) y1).eval fun y2 =>
  (cmp_Compare_int_r3 (cmp_Compare_int_K d) y2).eval fun y3 =>
  bif y3.2.2.2 then ((cmp_Compare_int_r4 (cmp_Compare_int_K d) y3).eval fun y4 =>
  bif y4 then ((cmp_Compare_int_r5 (cmp_Compare_int_K d) y4).eval fun y5 =>
  some y5) else ((cmp_Compare_int_r6 (cmp_Compare_int_K d) y4).eval fun y6 =>
  some y6)) else ((cmp_Compare_int_r7 (cmp_Compare_int_K d) y3).eval fun y7 =>
  bif y7.2.2 then ((cmp_Compare_int_r8 (cmp_Compare_int_K d) y7).eval fun y8 =>
  some y8) else ((cmp_Compare_int_r9 (cmp_Compare_int_K d) y7).eval fun y9 =>
  bif y9.2.2 then ((cmp_Compare_int_r10 (cmp_Compare_int_K d) y9).eval fun y10 =>
  some y10) else ((cmp_Compare_int_r11 (cmp_Compare_int_K d) y9).eval fun y11 =>
  bif y11 then ((cmp_Compare_int_r12 (cmp_Compare_int_K d) y11).eval fun y12 =>
  some y12) else ((cmp_Compare_int_r13 (cmp_Compare_int_K d) y11).eval fun y13 =>
  some y13))))
theorem cmp_Compare_int_cok (d : Nat) : COK prog (cmp_Compare_int_sp (F_cmp_Compare_int d)) := by
  have hm : prog.follows .mixedOrders = true := mixed
  have hT := tys
  have hC0 : OrcOK prog (orc (cmp_Compare_int_tab (cmp_Compare_int_K d))) := orc_ok (by
    intro S hS
    simp only [cmp_Compare_int_tab, List.mem_cons, List.not_mem_nil, or_false] at hS
    subst hS; exact cmp_isNaN_int_cok d)
  have hC : OrcOK prog (orc (cmp_Compare_int_tab (cmp_Compare_int_K d))) := hC0
  refine cok_of (c := bodyOf f90) (fn := f90) hT (by kernel_rfl) (by kernel_rfl) (by decide) fun x r h w0 φ0 Q hend => ?_
  replace h : F_cmp_Compare_int d x = some r := h
  unfold F_cmp_Compare_int at h
  show Run prog w0 φ0 20 (bodyOf f90) ⟨[(0, .int .i64 x.1.1), (1, .int .i64 x.2.1.1)], []⟩ Q
  refine run_seq ?_
  refine run_reg hm hT hC (cmp_Compare_int_g0 (cmp_Compare_int_K d) (x.1.1, x.2.1.1)) h ?_
  intro y0 h
  refine cn_then ?_
  refine run_seq ?_
  refine run_reg hm hT hC (cmp_Compare_int_g1 (cmp_Compare_int_K d) y0) h ?_
  intro y1 h
  refine cn_then ?_
  refine run_seq ?_
  refine run_reg hm hT hC (cmp_Compare_int_g2 (cmp_Compare_int_K d) y1) h ?_
  intro y2 h
  refine cn_then ?_
  refine run_seq ?_
  refine run_seq ?_
  refine run_reg hm hT hC (cmp_Compare_int_g3 (cmp_Compare_int_K d) y2) h ?_
  intro y3 h
  refine cn_then ?_
  refine run_cond (v := y3.2.2.2) (by kernel_rfl) h ?_ ?_
  ·
    intro h
    refine run_seq ?_
    refine run_seq ?_
    refine run_reg hm hT hC (cmp_Compare_int_g4 (cmp_Compare_int_K d) y3) h ?_
    intro y4 h
    refine cn_then ?_
    refine run_cond (v := y4) (by kernel_rfl) h ?_ ?_
    ·
      intro h
      refine run_seq ?_
      refine run_reg hm hT hC (cmp_Compare_int_g5 (cmp_Compare_int_K d) y4) h ?_
      intro y5 h
      refine cn_then ?_
      refine run_ret ?_
      refine cn_then_ret ?_
      refine cn_then_ret ?_
      cases h
      exact (hend _ (by kernel_rfl)).2
    ·
      intro h
      refine run_skip ?_
      refine cn_then ?_
      refine run_seq ?_
      refine run_reg hm hT hC (cmp_Compare_int_g6 (cmp_Compare_int_K d) y4) h ?_
      intro y6 h
      refine cn_then ?_
      refine run_ret ?_
      refine cn_then_ret ?_
      cases h
      exact (hend _ (by kernel_rfl)).2
  ·
    intro h
    refine run_skip ?_
    refine cn_then ?_
    refine run_seq ?_
    refine run_seq ?_
    refine run_reg hm hT hC (cmp_Compare_int_g7 (cmp_Compare_int_K d) y3) h ?_
    intro y7 h
    refine cn_then ?_
    refine run_cond (v := y7.2.2) (by kernel_rfl) h ?_ ?_
    ·
      intro h
      refine run_seq ?_
      refine run_reg hm hT hC (cmp_Compare_int_g8 (cmp_Compare_int_K d) y7) h ?_
      intro y8 h
      refine cn_then ?_
      refine run_ret ?_
      refine cn_then_ret ?_
      cases h
      exact (hend _ (by kernel_rfl)).2
    ·
      intro h
      refine run_skip ?_
      refine cn_then ?_
      refine run_seq ?_
      refine run_seq ?_
      refine run_reg hm hT hC (cmp_Compare_int_g9 (cmp_Compare_int_K d) y7) h ?_
      intro y9 h
      refine cn_then ?_
      refine run_cond (v := y9.2.2) (by kernel_rfl) h ?_ ?_
      ·
        intro h
        refine run_seq ?_
        refine run_reg hm hT hC (cmp_Compare_int_g10 (cmp_Compare_int_K d) y9) h ?_
        intro y10 h
        refine cn_then ?_
        refine run_ret ?_
        refine cn_then_ret ?_
        cases h
        exact (hend _ (by kernel_rfl)).2
      ·
        intro h
        refine run_skip ?_
        refine cn_then ?_
        refine run_seq ?_
        refine run_seq ?_
        refine run_reg hm hT hC (cmp_Compare_int_g11 (cmp_Compare_int_K d) y9) h ?_
        intro y11 h
        refine cn_then ?_
        refine run_cond (v := y11) (by kernel_rfl) h ?_ ?_
        ·
          intro h
          refine run_seq ?_
          refine run_reg hm hT hC (cmp_Compare_int_g12 (cmp_Compare_int_K d) y11) h ?_
          intro y12 h
          refine cn_then ?_
          refine run_ret ?_
          refine cn_then_ret ?_
          cases h
          exact (hend _ (by kernel_rfl)).2
        ·
          intro h
          refine run_skip ?_
          refine cn_then ?_
          refine run_seq ?_
          refine run_reg hm hT hC (cmp_Compare_int_g13 (cmp_Compare_int_K d) y11) h ?_
          intro y13 h
          refine cn_then ?_
          refine run_ret ?_
          cases h
          exact (hend _ (by kernel_rfl)).2
abbrev cmp_Or_int_ps : List Pk := [.row RLiE false]
abbrev cmp_Or_int_X : Type := DLiE × Unit
abbrev cmp_Or_int_R : Type := Int
def cmp_Or_int_enc (r : cmp_Or_int_R) : LV × List Ob := (.int .i64 r, [])
def cmp_Or_int_sp (F : cmp_Or_int_X → Option cmp_Or_int_R) : Go.Tx.Spec := ⟨109, cmp_Or_int_ps, cmp_Or_int_R, F, cmp_Or_int_enc⟩
abbrev cmp_Or_int_C : Type := Unit
def cmp_Or_int_K (_d : Nat) : cmp_Or_int_C := ()
def cmp_Or_int_tab (C : cmp_Or_int_C) : List Go.Tx.Spec := []
abbrev cmp_Or_int_Y0i : Type := List Di
def cmp_Or_int_S0i (v : cmp_Or_int_Y0i) : St := ⟨[(0, .fz Ri v)], []⟩
def cmp_Or_int_r0 (C : cmp_Or_int_C) (v : cmp_Or_int_Y0i) : Dt cmp_Or_int_Y0i := (Dt.ret v)
theorem cmp_Or_int_g0 (C : cmp_Or_int_C) (v : cmp_Or_int_Y0i) : treg tysT (orc (cmp_Or_int_tab C)) 18 (regO (bodyOf f109) 0) false [(0, (.val Ri))] (cmp_Or_int_S0i v) some = (cmp_Or_int_r0 C v).eval fun y => some (cmp_Or_int_S0i y) := by kernel_rfl
abbrev cmp_Or_int_Y1 : Type := List Di × Int
def cmp_Or_int_S1 (v : cmp_Or_int_Y1) : St := ⟨[(0, .fz Ri v.1), (3, .int .i64 v.2)], []⟩
def cmp_Or_int_r1 (C : cmp_Or_int_C) (v : cmp_Or_int_Y0i) : Dt cmp_Or_int_Y1 := (Dt.ret (v, (0:Int)))
theorem cmp_Or_int_g1 (C : cmp_Or_int_C) (v : cmp_Or_int_Y0i) : treg tysT (orc (cmp_Or_int_tab C)) 18 (regO (bodyOf f109) 1) false [(0, (.val Ri)), (3, .any)] (cmp_Or_int_S0i v) some = (cmp_Or_int_r1 C v).eval fun y => some (cmp_Or_int_S1 y) := by kernel_rfl
abbrev cmp_Or_int_Y2 : Type := Int × List Di × Int × Int
def cmp_Or_int_S2 (v : cmp_Or_int_Y2) : St := ⟨[(3, .int .i64 v.1), (6, .fz Ri v.2.1), (7, .int .i64 v.2.2.1), (8, .int .i64 v.2.2.2)], []⟩
def cmp_Or_int_r2 (C : cmp_Or_int_C) (v : cmp_Or_int_Y1) : Dt cmp_Or_int_Y2 := (Dt.ret (v.2, v.1, (List.length v.1 : Int), (0:Int)))
theorem cmp_Or_int_g2 (C : cmp_Or_int_C) (v : cmp_Or_int_Y1) : treg tysT (orc (cmp_Or_int_tab C)) 18 (regO (bodyOf f109) 2) false [(3, .any), (6, (.val Ri)), (7, .any), (8, .any)] (cmp_Or_int_S1 v) some = (cmp_Or_int_r2 C v).eval fun y => some (cmp_Or_int_S2 y) := by kernel_rfl
abbrev cmp_Or_int_Y3 : Type := Int × List Di × Int × Int × Bool
def cmp_Or_int_S3 (v : cmp_Or_int_Y3) : St := ⟨[(3, .int .i64 v.1), (6, .fz Ri v.2.1), (7, .int .i64 v.2.2.1), (8, .int .i64 v.2.2.2.1), (9, .bool v.2.2.2.2)], []⟩
def cmp_Or_int_r3 (C : cmp_Or_int_C) (v : cmp_Or_int_Y2) : Dt cmp_Or_int_Y3 := (Dt.ret (v.1, v.2.1, v.2.2.1, v.2.2.2, (decide (v.2.2.2 < v.2.2.1))))
theorem cmp_Or_int_g3 (C : cmp_Or_int_C) (v : cmp_Or_int_Y2) : treg tysT (orc (cmp_Or_int_tab C)) 18 (regO (bodyOf f109) 3) false [(3, .any), (6, (.val Ri)), (7, .any), (8, .any), (9, .any)] (cmp_Or_int_S2 v) some = (cmp_Or_int_r3 C v).eval fun y => some (cmp_Or_int_S3 y) := by kernel_rfl
abbrev cmp_Or_int_Y4 : Type := Int × Int × List Di × Int × Int
def cmp_Or_int_S4 (v : cmp_Or_int_Y4) : St := ⟨[(3, .int .i64 v.1), (5, .int .i64 v.2.1), (6, .fz Ri v.2.2.1), (7, .int .i64 v.2.2.2.1), (8, .int .i64 v.2.2.2.2)], []⟩
def cmp_Or_int_r4 (C : cmp_Or_int_C) (v : cmp_Or_int_Y3) : Dt cmp_Or_int_Y4 := (Dt.ite (inB v.2.2.2.1 (List.length v.2.1)) (Dt.ret (v.1, (elt zi v.2.1 (v.2.2.2.1).toNat).1, v.2.1, v.2.2.1, v.2.2.2.1)) Dt.fail)
theorem cmp_Or_int_g4 (C : cmp_Or_int_C) (v : cmp_Or_int_Y3) : treg tysT (orc (cmp_Or_int_tab C)) 18 (regO (bodyOf f109) 4) false [(3, .any), (5, .any), (6, (.val Ri)), (7, .any), (8, .any)] (cmp_Or_int_S3 v) some = (cmp_Or_int_r4 C v).eval fun y => some (cmp_Or_int_S4 y) := by kernel_rfl
abbrev cmp_Or_int_Y5 : Type := Int × Int × List Di × Int × Int × Bool
def cmp_Or_int_S5 (v : cmp_Or_int_Y5) : St := ⟨[(3, .int .i64 v.1), (5, .int .i64 v.2.1), (6, .fz Ri v.2.2.1), (7, .int .i64 v.2.2.2.1), (8, .int .i64 v.2.2.2.2.1), (14, .bool v.2.2.2.2.2)], []⟩
def cmp_Or_int_r5 (C : cmp_Or_int_C) (v : cmp_Or_int_Y4) : Dt cmp_Or_int_Y5 := (Dt.ret (v.1, v.2.1, v.2.2.1, v.2.2.2.1, v.2.2.2.2, (v.2.1 != v.1)))
theorem cmp_Or_int_g5 (C : cmp_Or_int_C) (v : cmp_Or_int_Y4) : treg tysT (orc (cmp_Or_int_tab C)) 18 (regO (bodyOf f109) 5) false [(3, .any), (5, .any), (6, (.val Ri)), (7, .any), (8, .any), (14, .any)] (cmp_Or_int_S4 v) some = (cmp_Or_int_r5 C v).eval fun y => some (cmp_Or_int_S5 y) := by kernel_rfl
abbrev cmp_Or_int_Y6 : Type := Int
def cmp_Or_int_S6 (v : cmp_Or_int_Y6) : St := ⟨[(2, .int .i64 v)], []⟩
def cmp_Or_int_r6 (C : cmp_Or_int_C) (v : cmp_Or_int_Y5) : Dt cmp_Or_int_Y6 := (Dt.ret v.2.1)
theorem cmp_Or_int_g6 (C : cmp_Or_int_C) (v : cmp_Or_int_Y5) : treg tysT (orc (cmp_Or_int_tab C)) 18 (regO (bodyOf f109) 6) false [(2, .any)] (cmp_Or_int_S5 v) some = (cmp_Or_int_r6 C v).eval fun y => some (cmp_Or_int_S6 y) := by kernel_rfl
def cmp_Or_int_r7 (C : cmp_Or_int_C) (v : cmp_Or_int_Y5) : Dt cmp_Or_int_Y2 := (Dt.ret (v.1, v.2.2.1, v.2.2.2.1, (IntKind.wrap .i64 (v.2.2.2.2.1 + (1:Int)))))
theorem cmp_Or_int_g7 (C : cmp_Or_int_C) (v : cmp_Or_int_Y5) : treg tysT (orc (cmp_Or_int_tab C)) 18 (regO (bodyOf f109) 7) false [(3, .any), (6, (.val Ri)), (7, .any), (8, .any)] (cmp_Or_int_S5 v) some = (cmp_Or_int_r7 C v).eval fun y => some (cmp_Or_int_S2 y) := by kernel_rfl
def cmp_Or_int_r8 (C : cmp_Or_int_C) (v : cmp_Or_int_Y3) : Dt cmp_Or_int_Y6 := (Dt.ret v.1)
theorem cmp_Or_int_g8 (C : cmp_Or_int_C) (v : cmp_Or_int_Y3) : treg tysT (orc (cmp_Or_int_tab C)) 18 (regO (bodyOf f109) 8) false [(2, .any)] (cmp_Or_int_S3 v) some = (cmp_Or_int_r8 C v).eval fun y => some (cmp_Or_int_S6 y) := by kernel_rfl
def cmp_Or_int_L1 (d : Nat) (self1 : (Int × List Di × Int × Int) → Option cmp_Or_int_R) (x1 : Int × List Di × Int × Int) : Option cmp_Or_int_R :=
  (cmp_Or_int_r3 (cmp_Or_int_K d) x1).eval fun y3 =>
  bif y3.2.2.2.2 then ((cmp_Or_int_r4 (cmp_Or_int_K d) y3).eval fun y4 =>
  (cmp_Or_int_r5 (cmp_Or_int_K d) y4).eval fun y5 =>
  bif y5.2.2.2.2.2 then ((cmp_Or_int_r6 (cmp_Or_int_K d) y5).eval fun y6 =>
  some y6) else ((cmp_Or_int_r7 (cmp_Or_int_K d) y5).eval fun y7 =>
  self1 y7)) else ((cmp_Or_int_r8 (cmp_Or_int_K d) y3).eval fun y8 =>
  some y8)
def F_cmp_Or_int (d : Nat) (x : cmp_Or_int_X) : Option cmp_Or_int_R :=
  (cmp_Or_int_r0 (cmp_Or_int_K d) x.1.1).eval fun y0 =>
  (cmp_Or_int_r1 (cmp_Or_int_K d) y0).eval fun y1 =>
  (cmp_Or_int_r2 (cmp_Or_int_K d) y1).eval fun y2 =>
  iter (cmp_Or_int_L1 d ) d y2
theorem cmp_Or_int_cok (d : Nat) : COK prog (cmp_Or_int_sp (F_cmp_Or_int d)) := by
  have hm : prog.follows .mixedOrders = true := mixed
  have hT := tys
  have hC0 : OrcOK prog (orc (cmp_Or_int_tab (cmp_Or_int_K d))) := orc_ok (by
    intro S hS
    simp only [cmp_Or_int_tab, List.mem_cons, List.not_mem_nil, or_false] at hS
    all_goals first | cases hS | exact hS.elim)
  have hC : OrcOK prog (orc (cmp_Or_int_tab (cmp_Or_int_K d))) := hC0
  refine cok_of (c := bodyOf f109) (fn := f109) hT (by kernel_rfl) (by kernel_rfl) (by decide) fun x r h w0 φ0 Q hend => ?_
  replace h : F_cmp_Or_int d x = some r := h
  unfold F_cmp_Or_int at h
  show Run prog w0 φ0 18 (bodyOf f109) ⟨[(0, .fz Ri x.1.1)], []⟩ Q
  refine run_seq ?_
  refine run_reg hm hT hC (cmp_Or_int_g0 (cmp_Or_int_K d) x.1.1) h ?_
  intro y0 h
  refine cn_then ?_
  refine run_seq ?_
  refine run_reg hm hT hC (cmp_Or_int_g1 (cmp_Or_int_K d) y0) h ?_
  intro y1 h
  refine cn_then ?_
  refine run_seq ?_
  refine run_seq ?_
  refine run_reg hm hT hC (cmp_Or_int_g2 (cmp_Or_int_K d) y1) h ?_
  intro y2 h
  refine cn_then ?_
  refine run_block ?_
  refine run_loop (G := iter (cmp_Or_int_L1 d )) (S := (fun x1 => ⟨[(3, .int .i64 x1.1), (6, .fz Ri x1.2.1), (7, .int .i64 x1.2.2.1), (8, .int .i64 x1.2.2.2)], []⟩ : Int × List Di × Int × Int → St)) (fun _ => rfl) ?_ d _ h
  intro n1 x1 h K1 hn1
  replace h : cmp_Or_int_L1 d  (iter (cmp_Or_int_L1 d ) n1) x1 = some r := h
  generalize iter (cmp_Or_int_L1 d ) n1 = self1 at h hn1
  unfold cmp_Or_int_L1 at h
  refine run_seq ?_
  refine run_reg hm hT hC (cmp_Or_int_g3 (cmp_Or_int_K d) x1) h ?_
  intro y3 h
  refine cn_then ?_
  refine run_seq ?_
  refine run_cond (v := y3.2.2.2.2) (by kernel_rfl) h ?_ ?_
  ·
    intro h
    refine run_skip ?_
    refine cn_then ?_
    refine run_seq ?_
    refine run_block ?_
    refine run_seq ?_
    refine run_reg hm hT hC (cmp_Or_int_g4 (cmp_Or_int_K d) y3) h ?_
    intro y4 h
    refine cn_then ?_
    refine run_seq ?_
    refine run_reg hm hT hC (cmp_Or_int_g5 (cmp_Or_int_K d) y4) h ?_
    intro y5 h
    refine cn_then ?_
    refine run_cond (v := y5.2.2.2.2.2) (by kernel_rfl) h ?_ ?_
    ·
      intro h
      refine run_seq ?_
      refine run_reg hm hT hC (cmp_Or_int_g6 (cmp_Or_int_K d) y5) h ?_
      intro y6 h
      refine cn_then ?_
      refine run_ret ?_
      refine cn_blk_ret ?_
      refine cn_then_ret ?_
      refine cn_then_ret ?_
      refine cn_blk_ret ?_
      refine cn_then_ret ?_
      cases h
      exact (hend _ (by kernel_rfl)).2
    ·
      intro h
      refine run_skip ?_
      refine cn_blk ?_
      refine cn_then ?_
      refine run_reg hm hT hC (cmp_Or_int_g7 (cmp_Or_int_K d) y5) h ?_
      intro y7 h
      exact hn1 _ h
  ·
    intro h
    refine run_exit ?_
    refine cn_then_exit ?_
    refine cn_then_exit ?_
    refine cn_blk_eq ?_
    refine cn_then ?_
    refine run_seq ?_
    refine run_reg hm hT hC (cmp_Or_int_g8 (cmp_Or_int_K d) y3) h ?_
    intro y8 h
    refine cn_then ?_
    refine run_ret ?_
    cases h
    exact (hend _ (by kernel_rfl)).2
abbrev chase_behind_2_ps : List Pk := [.row Riiii true, .row Riiii true, .ref Ri]
abbrev chase_behind_2_X : Type := Diiii × Diiii × Di × Unit
abbrev chase_behind_2_R : Type := Int
def chase_behind_2_enc (r : chase_behind_2_R) : LV × List Ob := (.int .i64 r, [])
def chase_behind_2_sp (F : chase_behind_2_X → Option chase_behind_2_R) : Go.Tx.Spec := ⟨108, chase_behind_2_ps, chase_behind_2_R, F, chase_behind_2_enc⟩
abbrev chase_behind_2_C : Type := (chase_other_X → Option chase_other_R) × (ratio_Cmp_X → Option ratio_Cmp_R) × (cmp_Compare_int_X → Option cmp_Compare_int_R) × (cmp_Or_int_X → Option cmp_Or_int_R) × Unit
def chase_behind_2_K (d : Nat) : chase_behind_2_C := (F_chase_other d, F_ratio_Cmp d, F_cmp_Compare_int d, F_cmp_Or_int d, ())
def chase_behind_2_tab (C : chase_behind_2_C) : List Go.Tx.Spec := [chase_other_sp C.1, ratio_Cmp_sp C.2.1, cmp_Compare_int_sp C.2.2.1, cmp_Or_int_sp C.2.2.2.1]
abbrev chase_behind_2_Y0i : Type := Int × Int × Int × Int × Int × Int × Int × Int × Di
def chase_behind_2_S0i (v : chase_behind_2_Y0i) : St := ⟨[(0, .agg [.int .i64 v.1, .int .i64 v.2.1, .int .i64 v.2.2.1, .int .i64 v.2.2.2.1]), (1, .agg [.int .i64 v.2.2.2.2.1, .int .i64 v.2.2.2.2.2.1, .int .i64 v.2.2.2.2.2.2.1, .int .i64 v.2.2.2.2.2.2.2.1]), (2, .fp Ri v.2.2.2.2.2.2.2.2 0)], []⟩
abbrev chase_behind_2_Y0 : Type := Di × Int × Int × Int × Int × Int × Int × Int × Int
def chase_behind_2_S0 (v : chase_behind_2_Y0) : St := ⟨[(2, .fp Ri v.1 0), (3, .ptr 0 0), (4, .ptr 1 0)], [.cells [.int .i64 v.2.1, .int .i64 v.2.2.1, .int .i64 v.2.2.2.1, .int .i64 v.2.2.2.2.1], .cells [.int .i64 v.2.2.2.2.2.1, .int .i64 v.2.2.2.2.2.2.1, .int .i64 v.2.2.2.2.2.2.2.1, .int .i64 v.2.2.2.2.2.2.2.2]]⟩
def chase_behind_2_r0 (C : chase_behind_2_C) (v : chase_behind_2_Y0i) : Dt chase_behind_2_Y0 := (Dt.ret (v.2.2.2.2.2.2.2.2, v.1, v.2.1, v.2.2.1, v.2.2.2.1, v.2.2.2.2.1, v.2.2.2.2.2.1, v.2.2.2.2.2.2.1, v.2.2.2.2.2.2.2.1))
theorem chase_behind_2_g0 (C : chase_behind_2_C) (v : chase_behind_2_Y0i) : treg tysT (orc (chase_behind_2_tab C)) 26 (regO (bodyOf f108) 0) false [(2, .any), (3, .any), (4, .any)] (chase_behind_2_S0i v) some = (chase_behind_2_r0 C v).eval fun y => some (chase_behind_2_S0 y) := by kernel_rfl
abbrev chase_behind_2_Y1 : Type := Di × Int × Int × Int × Int × Int × Int × Int × Int × Int
def chase_behind_2_S1 (v : chase_behind_2_Y1) : St := ⟨[(2, .fp Ri v.1 0), (3, .ptr 0 0), (4, .ptr 1 0), (6, .int .i64 v.2.1)], [.cells [.int .i64 v.2.2.1, .int .i64 v.2.2.2.1, .int .i64 v.2.2.2.2.1, .int .i64 v.2.2.2.2.2.1], .cells [.int .i64 v.2.2.2.2.2.2.1, .int .i64 v.2.2.2.2.2.2.2.1, .int .i64 v.2.2.2.2.2.2.2.2.1, .int .i64 v.2.2.2.2.2.2.2.2.2]]⟩
def chase_behind_2_r1 (C : chase_behind_2_C) (v : chase_behind_2_Y0) : Dt chase_behind_2_Y1 := (Dt.bnd (C.2.1 ((v.2.1, v.2.2.1, ()), (v.2.2.2.2.2.1, v.2.2.2.2.2.2.1, ()), ())) fun r1 => (Dt.ret (v.1, r1.1, v.2.1, v.2.2.1, v.2.2.2.1, v.2.2.2.2.1, v.2.2.2.2.2.1, v.2.2.2.2.2.2.1, v.2.2.2.2.2.2.2.1, v.2.2.2.2.2.2.2.2)))
theorem chase_behind_2_g1 (C : chase_behind_2_C) (v : chase_behind_2_Y0) : treg tysT (orc (chase_behind_2_tab C)) 26 (regO (bodyOf f108) 1) false [(2, .any), (3, .any), (4, .any), (6, .any)] (chase_behind_2_S0 v) some = (chase_behind_2_r1 C v).eval fun y => some (chase_behind_2_S1 y) := by kernel_rfl
abbrev chase_behind_2_Y2 : Type := Int
def chase_behind_2_S2 (v : chase_behind_2_Y2) : St := ⟨[(5, .int .i64 v)], []⟩
def chase_behind_2_r2 (C : chase_behind_2_C) (v : chase_behind_2_Y1) : Dt chase_behind_2_Y2 := (Dt.bnd (C.1 ((v.2.2.1, v.2.2.2.1, v.2.2.2.2.1, v.2.2.2.2.2.1, ()), (v.1.1, ()), ())) fun r1 => (Dt.bnd (C.1 ((v.2.2.2.2.2.2.1, v.2.2.2.2.2.2.2.1, v.2.2.2.2.2.2.2.2.1, v.2.2.2.2.2.2.2.2.2, ()), (v.1.1, ()), ())) fun r2 => (Dt.bnd (C.2.2.1 ((r1, ()), (r2, ()), ())) fun r3 => (Dt.bnd (C.2.2.2.1 ((([(v.2.1, ()), (r3, ())] : List Di), ()), ())) fun r4 => (Dt.ret r4)))))
theorem chase_behind_2_g2 (C : chase_behind_2_C) (v : chase_behind_2_Y1) : treg tysT (orc (chase_behind_2_tab C)) 26 (regO (bodyOf f108) 2) true [(5, .any)] (chase_behind_2_S1 v) some = (chase_behind_2_r2 C v).eval fun y => some (chase_behind_2_S2 y) := by kernel_rfl
def F_chase_behind_2 (d : Nat) (x : chase_behind_2_X) : Option chase_behind_2_R :=
  (chase_behind_2_r0 (chase_behind_2_K d) (x.1.1, x.1.2.1, x.1.2.2.1, x.1.2.2.2.1, x.2.1.1, x.2.1.2.1, x.2.1.2.2.1, x.2.1.2.2.2.1, x.2.2.1)).eval fun y0 =>
  (chase_behind_2_r1 (chase_behind_2_K d) y0).eval fun y1 =>
  (chase_behind_2_r2 (chase_behind_2_K d) y1).eval fun y2 =>
  some y2
theorem chase_behind_2_cok (d : Nat) : COK prog (chase_behind_2_sp (F_chase_behind_2 d)) := by
  have hm : prog.follows .mixedOrders = true := mixed
  have hT := tys
  have hC0 : OrcOK prog (orc (chase_behind_2_tab (chase_behind_2_K d))) := orc_ok (by
    intro S hS
    simp only [chase_behind_2_tab, List.mem_cons, List.not_mem_nil, or_false] at hS
    rcases hS with rfl | rfl | rfl | rfl
    · exact chase_other_cok d
    · exact ratio_Cmp_cok d
    · exact cmp_Compare_int_cok d
    · exact cmp_Or_int_cok d)
  have hC : OrcOK prog (orc (chase_behind_2_tab (chase_behind_2_K d))) := hC0
  refine cok_of (c := bodyOf f108) (fn := f108) hT (by kernel_rfl) (by kernel_rfl) (by decide) fun x r h w0 φ0 Q hend => ?_
  replace h : F_chase_behind_2 d x = some r := h
  unfold F_chase_behind_2 at h
  show Run prog w0 φ0 26 (bodyOf f108) ⟨[(0, .agg [.int .i64 x.1.1, .int .i64 x.1.2.1, .int .i64 x.1.2.2.1, .int .i64 x.1.2.2.2.1]), (1, .agg [.int .i64 x.2.1.1, .int .i64 x.2.1.2.1, .int .i64 x.2.1.2.2.1, .int .i64 x.2.1.2.2.2.1]), (2, .fp Ri x.2.2.1 0)], []⟩ Q
  refine run_seq ?_
  refine run_reg hm hT hC (chase_behind_2_g0 (chase_behind_2_K d) (x.1.1, x.1.2.1, x.1.2.2.1, x.1.2.2.2.1, x.2.1.1, x.2.1.2.1, x.2.1.2.2.1, x.2.1.2.2.2.1, x.2.2.1)) h ?_
  intro y0 h
  refine cn_then ?_
  refine run_seq ?_
  refine run_reg hm hT hC (chase_behind_2_g1 (chase_behind_2_K d) y0) h ?_
  intro y1 h
  refine cn_then ?_
  refine run_seq ?_
  refine run_reg hm hT hC (chase_behind_2_g2 (chase_behind_2_K d) y1) h ?_
  intro y2 h
  refine cn_then ?_
  refine run_ret ?_
  cases h
  exact (hend _ (by kernel_rfl)).2
abbrev chase_behind_ps : List Pk := [.row RLiiiE true, .row Ri false, .row Rii true]
abbrev chase_behind_X : Type := DLiiiE × Di × Dii × Unit
abbrev chase_behind_R : Type := List Diiii
def chase_behind_enc (r : chase_behind_R) : LV × List Ob := (.rs 0, [.rows Riiii r])
def chase_behind_sp (F : chase_behind_X → Option chase_behind_R) : Go.Tx.Spec := ⟨72, chase_behind_ps, chase_behind_R, F, chase_behind_enc⟩
abbrev chase_behind_C : Type := (field_Find_X → Option field_Find_R) × (chase_behind_1_X → Option chase_behind_1_R) × (chase_behind_2_X → Option chase_behind_2_R) × Unit
def chase_behind_K (d : Nat) : chase_behind_C := (F_field_Find d, F_chase_behind_1 d, F_chase_behind_2 d, ())
def chase_behind_tab (C : chase_behind_C) : List Go.Tx.Spec := [field_Find_sp C.1, chase_behind_2_sp C.2.2.1]
abbrev chase_behind_Y0i : Type := List Diii × Int × Int × Int
def chase_behind_S0i (v : chase_behind_Y0i) : St := ⟨[(0, .agg [.fz Riii v.1]), (1, .int .i64 v.2.1), (2, .agg [.int .i64 v.2.2.1, .int .i64 v.2.2.2])], []⟩
abbrev chase_behind_Y0 : Type := List Diii × Int × Int × Int
def chase_behind_S0 (v : chase_behind_Y0) : St := ⟨[(3, .ptr 0 0), (4, .ptr 1 0), (5, .ptr 2 0)], [.cells [.fz Riii v.1], .cells [.int .i64 v.2.1], .cells [.int .i64 v.2.2.1, .int .i64 v.2.2.2]]⟩
def chase_behind_r0 (C : chase_behind_C) (v : chase_behind_Y0i) : Dt chase_behind_Y0 := (Dt.ret (v.1, v.2.1, v.2.2.1, v.2.2.2))
theorem chase_behind_g0 (C : chase_behind_C) (v : chase_behind_Y0i) : treg tysT (orcW (chase_behind_1_wsp C.2.1) (orcSt 107 108 Riiii Ri C.2.2.1 (orc (chase_behind_tab C)))) 39 (regO (bodyOf f72) 0) false [(3, (.box [.val Riii])), (4, .any), (5, .any)] (chase_behind_S0i v) some = (chase_behind_r0 C v).eval fun y => some (chase_behind_S0 y) := by kernel_rfl
abbrev chase_behind_Y1 : Type := List Diii × Int × Int × Int × Int × Int × Int
def chase_behind_S1 (v : chase_behind_Y1) : St := ⟨[(3, .ptr 0 0), (4, .ptr 1 0), (5, .ptr 2 0), (7, .ptr 3 0)], [.cells [.fz Riii v.1], .cells [.int .i64 v.2.1], .cells [.int .i64 v.2.2.1, .int .i64 v.2.2.2.1], .cells [.int .i64 v.2.2.2.2.1, .int .i64 v.2.2.2.2.2.1, .int .i64 v.2.2.2.2.2.2]]⟩
def chase_behind_r1 (C : chase_behind_C) (v : chase_behind_Y0) : Dt chase_behind_Y1 := (Dt.bnd (C.1 ((v.1, ()), (v.2.1, ()), ())) fun r1 => (Dt.ret (v.1, v.2.1, v.2.2.1, v.2.2.2, r1.1, r1.2.1, r1.2.2.1)))
theorem chase_behind_g1 (C : chase_behind_C) (v : chase_behind_Y0) : treg tysT (orcW (chase_behind_1_wsp C.2.1) (orcSt 107 108 Riiii Ri C.2.2.1 (orc (chase_behind_tab C)))) 39 (regO (bodyOf f72) 1) false [(3, (.box [.val Riii])), (4, .any), (5, .any), (7, .any)] (chase_behind_S0 v) some = (chase_behind_r1 C v).eval fun y => some (chase_behind_S1 y) := by kernel_rfl
abbrev chase_behind_Y2 : Type := List Diii × Int × Int × Int × Int × Int × Int × List Diiii
def chase_behind_S2 (v : chase_behind_Y2) : St := ⟨[(3, .ptr 0 0), (4, .ptr 1 0), (5, .ptr 2 0), (7, .ptr 3 0), (9, .ptr 4 0)], [.cells [.fz Riii v.1], .cells [.int .i64 v.2.1], .cells [.int .i64 v.2.2.1, .int .i64 v.2.2.2.1], .cells [.int .i64 v.2.2.2.2.1, .int .i64 v.2.2.2.2.2.1, .int .i64 v.2.2.2.2.2.2.1], .cells [.rs 5], .rows Riiii v.2.2.2.2.2.2.2]⟩
def chase_behind_r2 (C : chase_behind_C) (v : chase_behind_Y1) : Dt chase_behind_Y2 := (Dt.ret (v.1, v.2.1, v.2.2.1, v.2.2.2.1, v.2.2.2.2.1, v.2.2.2.2.2.1, v.2.2.2.2.2.2, ([] : List Diiii)))
theorem chase_behind_g2 (C : chase_behind_C) (v : chase_behind_Y1) : treg tysT (orcW (chase_behind_1_wsp C.2.1) (orcSt 107 108 Riiii Ri C.2.2.1 (orc (chase_behind_tab C)))) 39 (regO (bodyOf f72) 2) false [(3, (.box [.val Riii])), (4, .any), (5, .any), (7, .any), (9, (.box [.own Riiii]))] (chase_behind_S1 v) some = (chase_behind_r2 C v).eval fun y => some (chase_behind_S2 y) := by kernel_rfl
abbrev chase_behind_Y3 : Type := List Diii × Int × List Diiii × Int × Int × Int × Int × Int
def chase_behind_S3 (v : chase_behind_Y3) : St := ⟨[(3, .ptr 0 0), (4, .ptr 1 0), (9, .ptr 2 0), (10, .fn 106 [.ptr 4 0, .ptr 5 0, .ptr 2 0, .ptr 1 0])], [.cells [.fz Riii v.1], .cells [.int .i64 v.2.1], .cells [.rs 3], .rows Riiii v.2.2.1, .cells [.int .i64 v.2.2.2.1, .int .i64 v.2.2.2.2.1, .int .i64 v.2.2.2.2.2.1], .cells [.int .i64 v.2.2.2.2.2.2.1, .int .i64 v.2.2.2.2.2.2.2]]⟩
def chase_behind_r3 (C : chase_behind_C) (v : chase_behind_Y2) : Dt chase_behind_Y3 := (Dt.ret (v.1, v.2.1, v.2.2.2.2.2.2.2, v.2.2.2.2.1, v.2.2.2.2.2.1, v.2.2.2.2.2.2.1, v.2.2.1, v.2.2.2.1))
theorem chase_behind_g3 (C : chase_behind_C) (v : chase_behind_Y2) : treg tysT (orcW (chase_behind_1_wsp C.2.1) (orcSt 107 108 Riiii Ri C.2.2.1 (orc (chase_behind_tab C)))) 39 (regO (bodyOf f72) 3) false [(3, (.box [.val Riii])), (4, .any), (9, (.box [.own Riiii])), (10, .any)] (chase_behind_S2 v) some = (chase_behind_r3 C v).eval fun y => some (chase_behind_S3 y) := by kernel_rfl
abbrev chase_behind_Y4 : Type := List Diii × Int × Int × Int × List Diiii × Int × Int × Int × Int × Int
def chase_behind_S4 (v : chase_behind_Y4) : St := ⟨[(4, .ptr 0 0), (9, .ptr 1 0), (10, .fn 106 [.ptr 3 0, .ptr 4 0, .ptr 1 0, .ptr 0 0]), (21, .fz Riii v.1), (22, .int .i64 v.2.1), (23, .int .i64 v.2.2.1)], [.cells [.int .i64 v.2.2.2.1], .cells [.rs 2], .rows Riiii v.2.2.2.2.1, .cells [.int .i64 v.2.2.2.2.2.1, .int .i64 v.2.2.2.2.2.2.1, .int .i64 v.2.2.2.2.2.2.2.1], .cells [.int .i64 v.2.2.2.2.2.2.2.2.1, .int .i64 v.2.2.2.2.2.2.2.2.2]]⟩
def chase_behind_r4 (C : chase_behind_C) (v : chase_behind_Y3) : Dt chase_behind_Y4 := (Dt.ret (v.1, (List.length v.1 : Int), (0:Int), v.2.1, v.2.2.1, v.2.2.2.1, v.2.2.2.2.1, v.2.2.2.2.2.1, v.2.2.2.2.2.2.1, v.2.2.2.2.2.2.2))
theorem chase_behind_g4 (C : chase_behind_C) (v : chase_behind_Y3) : treg tysT (orcW (chase_behind_1_wsp C.2.1) (orcSt 107 108 Riiii Ri C.2.2.1 (orc (chase_behind_tab C)))) 39 (regO (bodyOf f72) 4) false [(4, .any), (9, (.box [.own Riiii])), (10, .any), (21, (.val Riii)), (22, .any), (23, .any)] (chase_behind_S3 v) some = (chase_behind_r4 C v).eval fun y => some (chase_behind_S4 y) := by kernel_rfl
abbrev chase_behind_Y5 : Type := List Diii × Int × Int × Bool × Int × List Diiii × Int × Int × Int × Int × Int
def chase_behind_S5 (v : chase_behind_Y5) : St := ⟨[(4, .ptr 0 0), (9, .ptr 1 0), (10, .fn 106 [.ptr 3 0, .ptr 4 0, .ptr 1 0, .ptr 0 0]), (21, .fz Riii v.1), (22, .int .i64 v.2.1), (23, .int .i64 v.2.2.1), (24, .bool v.2.2.2.1)], [.cells [.int .i64 v.2.2.2.2.1], .cells [.rs 2], .rows Riiii v.2.2.2.2.2.1, .cells [.int .i64 v.2.2.2.2.2.2.1, .int .i64 v.2.2.2.2.2.2.2.1, .int .i64 v.2.2.2.2.2.2.2.2.1], .cells [.int .i64 v.2.2.2.2.2.2.2.2.2.1, .int .i64 v.2.2.2.2.2.2.2.2.2.2]]⟩
def chase_behind_r5 (C : chase_behind_C) (v : chase_behind_Y4) : Dt chase_behind_Y5 := (Dt.ret (v.1, v.2.1, v.2.2.1, (decide (v.2.2.1 < v.2.1)), v.2.2.2.1, v.2.2.2.2.1, v.2.2.2.2.2.1, v.2.2.2.2.2.2.1, v.2.2.2.2.2.2.2.1, v.2.2.2.2.2.2.2.2.1, v.2.2.2.2.2.2.2.2.2))
theorem chase_behind_g5 (C : chase_behind_C) (v : chase_behind_Y4) : treg tysT (orcW (chase_behind_1_wsp C.2.1) (orcSt 107 108 Riiii Ri C.2.2.1 (orc (chase_behind_tab C)))) 39 (regO (bodyOf f72) 5) false [(4, .any), (9, (.box [.own Riiii])), (10, .any), (21, (.val Riii)), (22, .any), (23, .any), (24, .any)] (chase_behind_S4 v) some = (chase_behind_r5 C v).eval fun y => some (chase_behind_S5 y) := by kernel_rfl
abbrev chase_behind_Y6 : Type := List Diii × Int × Int × Int × List Diiii × Int × Int × Int × Int × Int × Int × Int × Int
def chase_behind_S6 (v : chase_behind_Y6) : St := ⟨[(4, .ptr 0 0), (9, .ptr 1 0), (10, .fn 106 [.ptr 3 0, .ptr 4 0, .ptr 1 0, .ptr 0 0]), (12, .ptr 5 0), (21, .fz Riii v.1), (22, .int .i64 v.2.1), (23, .int .i64 v.2.2.1)], [.cells [.int .i64 v.2.2.2.1], .cells [.rs 2], .rows Riiii v.2.2.2.2.1, .cells [.int .i64 v.2.2.2.2.2.1, .int .i64 v.2.2.2.2.2.2.1, .int .i64 v.2.2.2.2.2.2.2.1], .cells [.int .i64 v.2.2.2.2.2.2.2.2.1, .int .i64 v.2.2.2.2.2.2.2.2.2.1], .cells [.int .i64 v.2.2.2.2.2.2.2.2.2.2.1, .int .i64 v.2.2.2.2.2.2.2.2.2.2.2.1, .int .i64 v.2.2.2.2.2.2.2.2.2.2.2.2]]⟩
def chase_behind_r6 (C : chase_behind_C) (v : chase_behind_Y5) : Dt chase_behind_Y6 := (Dt.ite (inB v.2.2.1 (List.length v.1)) (Dt.ret (v.1, v.2.1, v.2.2.1, v.2.2.2.2.1, v.2.2.2.2.2.1, v.2.2.2.2.2.2.1, v.2.2.2.2.2.2.2.1, v.2.2.2.2.2.2.2.2.1, v.2.2.2.2.2.2.2.2.2.1, v.2.2.2.2.2.2.2.2.2.2, (elt ziii v.1 (v.2.2.1).toNat).1, (elt ziii v.1 (v.2.2.1).toNat).2.1, (elt ziii v.1 (v.2.2.1).toNat).2.2.1)) Dt.fail)
theorem chase_behind_g6 (C : chase_behind_C) (v : chase_behind_Y5) : treg tysT (orcW (chase_behind_1_wsp C.2.1) (orcSt 107 108 Riiii Ri C.2.2.1 (orc (chase_behind_tab C)))) 39 (regO (bodyOf f72) 6) false [(4, .any), (9, (.box [.own Riiii])), (10, .any), (12, .any), (21, (.val Riii)), (22, .any), (23, .any)] (chase_behind_S5 v) some = (chase_behind_r6 C v).eval fun y => some (chase_behind_S6 y) := by kernel_rfl
abbrev chase_behind_Y7 : Type := List Diii × Int × Int × Bool × Int × List Diiii × Int × Int × Int × Int × Int × Int × Int × Int
def chase_behind_S7 (v : chase_behind_Y7) : St := ⟨[(4, .ptr 0 0), (9, .ptr 1 0), (10, .fn 106 [.ptr 3 0, .ptr 4 0, .ptr 1 0, .ptr 0 0]), (12, .ptr 5 0), (21, .fz Riii v.1), (22, .int .i64 v.2.1), (23, .int .i64 v.2.2.1), (30, .bool v.2.2.2.1)], [.cells [.int .i64 v.2.2.2.2.1], .cells [.rs 2], .rows Riiii v.2.2.2.2.2.1, .cells [.int .i64 v.2.2.2.2.2.2.1, .int .i64 v.2.2.2.2.2.2.2.1, .int .i64 v.2.2.2.2.2.2.2.2.1], .cells [.int .i64 v.2.2.2.2.2.2.2.2.2.1, .int .i64 v.2.2.2.2.2.2.2.2.2.2.1], .cells [.int .i64 v.2.2.2.2.2.2.2.2.2.2.2.1, .int .i64 v.2.2.2.2.2.2.2.2.2.2.2.2.1, .int .i64 v.2.2.2.2.2.2.2.2.2.2.2.2.2]]⟩
def chase_behind_r7 (C : chase_behind_C) (v : chase_behind_Y6) : Dt chase_behind_Y7 := (Dt.ret (v.1, v.2.1, v.2.2.1, (v.2.2.2.2.2.2.2.2.2.2.1 != v.2.2.2.1), v.2.2.2.1, v.2.2.2.2.1, v.2.2.2.2.2.1, v.2.2.2.2.2.2.1, v.2.2.2.2.2.2.2.1, v.2.2.2.2.2.2.2.2.1, v.2.2.2.2.2.2.2.2.2.1, v.2.2.2.2.2.2.2.2.2.2.1, v.2.2.2.2.2.2.2.2.2.2.2.1, v.2.2.2.2.2.2.2.2.2.2.2.2))
theorem chase_behind_g7 (C : chase_behind_C) (v : chase_behind_Y6) : treg tysT (orcW (chase_behind_1_wsp C.2.1) (orcSt 107 108 Riiii Ri C.2.2.1 (orc (chase_behind_tab C)))) 39 (regO (bodyOf f72) 7) false [(4, .any), (9, (.box [.own Riiii])), (10, .any), (12, .any), (21, (.val Riii)), (22, .any), (23, .any), (30, .any)] (chase_behind_S6 v) some = (chase_behind_r7 C v).eval fun y => some (chase_behind_S7 y) := by kernel_rfl
def chase_behind_r8 (C : chase_behind_C) (v : chase_behind_Y7) : Dt chase_behind_Y4 := (Dt.bnd (C.2.1 (((v.2.2.2.2.2.2.2.2.2.2.2.1, v.2.2.2.2.2.2.2.2.2.2.2.2.1, v.2.2.2.2.2.2.2.2.2.2.2.2.2, ()), (v.2.2.2.2.2.2.1, v.2.2.2.2.2.2.2.1, v.2.2.2.2.2.2.2.2.1, ()), (v.2.2.2.2.2.2.2.2.2.1, v.2.2.2.2.2.2.2.2.2.2.1, ()), ()), ((v.2.2.2.2.1, ()), ()), v.2.2.2.2.2.1)) fun r1 => (Dt.ret (v.1, v.2.1, v.2.2.1, v.2.2.2.2.1, r1, v.2.2.2.2.2.2.1, v.2.2.2.2.2.2.2.1, v.2.2.2.2.2.2.2.2.1, v.2.2.2.2.2.2.2.2.2.1, v.2.2.2.2.2.2.2.2.2.2.1)))
theorem chase_behind_g8 (C : chase_behind_C) (v : chase_behind_Y7) : treg tysT (orcW (chase_behind_1_wsp C.2.1) (orcSt 107 108 Riiii Ri C.2.2.1 (orc (chase_behind_tab C)))) 39 (regO (bodyOf f72) 8) false [(4, .any), (9, (.box [.own Riiii])), (10, .any), (21, (.val Riii)), (22, .any), (23, .any)] (chase_behind_S7 v) some = (chase_behind_r8 C v).eval fun y => some (chase_behind_S4 y) := by kernel_rfl
def chase_behind_r9 (C : chase_behind_C) (v : chase_behind_Y4) : Dt chase_behind_Y4 := (Dt.ret (v.1, v.2.1, (IntKind.wrap .i64 (v.2.2.1 + (1:Int))), v.2.2.2.1, v.2.2.2.2.1, v.2.2.2.2.2.1, v.2.2.2.2.2.2.1, v.2.2.2.2.2.2.2.1, v.2.2.2.2.2.2.2.2.1, v.2.2.2.2.2.2.2.2.2))
theorem chase_behind_g9 (C : chase_behind_C) (v : chase_behind_Y4) : treg tysT (orcW (chase_behind_1_wsp C.2.1) (orcSt 107 108 Riiii Ri C.2.2.1 (orc (chase_behind_tab C)))) 39 (regO (bodyOf f72) 9) false [(4, .any), (9, (.box [.own Riiii])), (10, .any), (21, (.val Riii)), (22, .any), (23, .any)] (chase_behind_S4 v) some = (chase_behind_r9 C v).eval fun y => some (chase_behind_S4 y) := by kernel_rfl
def chase_behind_J2  (d : Nat) (self1 : (List Diii × Int × Int × Int × List Diiii × Int × Int × Int × Int × Int) → Option chase_behind_R) (z : List Diii × Int × Int × Int × List Diiii × Int × Int × Int × Int × Int) : Option (chase_behind_R) :=
  (chase_behind_r9 (chase_behind_K d) z).eval fun y9 =>
  self1 y9
abbrev chase_behind_Y10 : Type := List Diiii
def chase_behind_S10 (v : chase_behind_Y10) : St := ⟨[(9, .ptr 0 0)], [.cells [.rs 1], .rows Riiii v]⟩
def chase_behind_r10 (C : chase_behind_C) (v : chase_behind_Y5) : Dt chase_behind_Y10 := (Dt.bnd (stabV (τ := Riiii) (fun p => C.2.2.1 (p.1, p.2.1, (v.2.2.2.2.1, ()), ())) v.2.2.2.2.2.1) fun r1 => (Dt.ret r1))
theorem chase_behind_g10 (C : chase_behind_C) (v : chase_behind_Y5) : treg tysT (orcW (chase_behind_1_wsp C.2.1) (orcSt 107 108 Riiii Ri C.2.2.1 (orc (chase_behind_tab C)))) 39 (regO (bodyOf f72) 10) false [(9, (.box [.own Riiii]))] (chase_behind_S5 v) some = (chase_behind_r10 C v).eval fun y => some (chase_behind_S10 y) := by kernel_rfl
abbrev chase_behind_Y11 : Type := List Diiii
def chase_behind_S11 (v : chase_behind_Y11) : St := ⟨[(6, .rs 0)], [.rows Riiii v]⟩
def chase_behind_r11 (C : chase_behind_C) (v : chase_behind_Y10) : Dt chase_behind_Y11 := (Dt.ret v)
theorem chase_behind_g11 (C : chase_behind_C) (v : chase_behind_Y10) : treg tysT (orcW (chase_behind_1_wsp C.2.1) (orcSt 107 108 Riiii Ri C.2.2.1 (orc (chase_behind_tab C)))) 39 (regO (bodyOf f72) 11) false [(6, (.own Riiii))] (chase_behind_S10 v) some = (chase_behind_r11 C v).eval fun y => some (chase_behind_S11 y) := by kernel_rfl
def chase_behind_L1 (d : Nat) (self1 : (List Diii × Int × Int × Int × List Diiii × Int × Int × Int × Int × Int) → Option chase_behind_R) (x1 : List Diii × Int × Int × Int × List Diiii × Int × Int × Int × Int × Int) : Option chase_behind_R :=
  (chase_behind_r5 (chase_behind_K d) x1).eval fun y5 =>
  bif y5.2.2.2.1 then ((chase_behind_r6 (chase_behind_K d) y5).eval fun y6 =>
  (chase_behind_r7 (chase_behind_K d) y6).eval fun y7 =>
  bif y7.2.2.2.1 then ((chase_behind_r8 (chase_behind_K d) y7).eval fun y8 =>
  chase_behind_J2 d self1 y8) else (chase_behind_J2 d self1 (y7.1, y7.2.1, y7.2.2.1, y7.2.2.2.2.1, y7.2.2.2.2.2.1, y7.2.2.2.2.2.2.1, y7.2.2.2.2.2.2.2.1, y7.2.2.2.2.2.2.2.2.1, y7.2.2.2.2.2.2.2.2.2.1, y7.2.2.2.2.2.2.2.2.2.2.1))) else ((chase_behind_r10 (chase_behind_K d) y5).eval fun y10 =>
  (chase_behind_r11 (chase_behind_K d) y10).eval fun y11 =>
  some y11)
def F_chase_behind (d : Nat) (x : chase_behind_X) : Option chase_behind_R :=
  (chase_behind_r0 (chase_behind_K d) (x.1.1, x.2.1.1, x.2.2.1.1, x.2.2.1.2.1)).eval fun y0 =>
  (chase_behind_r1 (chase_behind_K d) y0).eval fun y1 =>
  (chase_behind_r2 (chase_behind_K d) y1).eval fun y2 =>
  (chase_behind_r3 (chase_behind_K d) y2).eval fun y3 =>
  (chase_behind_r4 (chase_behind_K d) y3).eval fun y4 =>
  iter (chase_behind_L1 d ) d y4
theorem chase_behind_cok (d : Nat) : COK prog (chase_behind_sp (F_chase_behind d)) := by
  have hm : prog.follows .mixedOrders = true := mixed
  have hT := tys
  have hC0 : OrcOK prog (orc (chase_behind_tab (chase_behind_K d))) := orc_ok (by
    intro S hS
    simp only [chase_behind_tab, List.mem_cons, List.not_mem_nil, or_false] at hS
    rcases hS with rfl | rfl
    · exact field_Find_cok d
    · exact chase_behind_2_cok d)
  have hC : OrcOK prog (orcW (chase_behind_1_wsp (chase_behind_K d).2.1) (orcSt 107 108 Riiii Ri (chase_behind_K d).2.2.1 (orc (chase_behind_tab (chase_behind_K d))))) := (orcW_ok (chase_behind_1_cokw d) rfl (stab_api_Meeting_ok (chase_behind_2_cok d) hC0))
  refine cok_of (c := bodyOf f72) (fn := f72) hT (by kernel_rfl) (by kernel_rfl) (by decide) fun x r h w0 φ0 Q hend => ?_
  replace h : F_chase_behind d x = some r := h
  unfold F_chase_behind at h
  show Run prog w0 φ0 39 (bodyOf f72) ⟨[(0, .agg [.fz Riii x.1.1]), (1, .int .i64 x.2.1.1), (2, .agg [.int .i64 x.2.2.1.1, .int .i64 x.2.2.1.2.1])], []⟩ Q
  refine run_seq ?_
  refine run_reg hm hT hC (chase_behind_g0 (chase_behind_K d) (x.1.1, x.2.1.1, x.2.2.1.1, x.2.2.1.2.1)) h ?_
  intro y0 h
  refine cn_then ?_
  refine run_seq ?_
  refine run_reg hm hT hC (chase_behind_g1 (chase_behind_K d) y0) h ?_
  intro y1 h
  refine cn_then ?_
  refine run_seq ?_
  refine run_reg hm hT hC (chase_behind_g2 (chase_behind_K d) y1) h ?_
  intro y2 h
  refine cn_then ?_
  refine run_seq ?_
  refine run_reg hm hT hC (chase_behind_g3 (chase_behind_K d) y2) h ?_
  intro y3 h
  refine cn_then ?_
  refine run_seq ?_
  refine run_seq ?_
  refine run_reg hm hT hC (chase_behind_g4 (chase_behind_K d) y3) h ?_
  intro y4 h
  refine cn_then ?_
  refine run_block ?_
  refine run_loop (G := iter (chase_behind_L1 d )) (S := (fun x1 => ⟨[(4, .ptr 0 0), (9, .ptr 1 0), (10, .fn 106 [.ptr 3 0, .ptr 4 0, .ptr 1 0, .ptr 0 0]), (21, .fz Riii x1.1), (22, .int .i64 x1.2.1), (23, .int .i64 x1.2.2.1)], [.cells [.int .i64 x1.2.2.2.1], .cells [.rs 2], .rows Riiii x1.2.2.2.2.1, .cells [.int .i64 x1.2.2.2.2.2.1, .int .i64 x1.2.2.2.2.2.2.1, .int .i64 x1.2.2.2.2.2.2.2.1], .cells [.int .i64 x1.2.2.2.2.2.2.2.2.1, .int .i64 x1.2.2.2.2.2.2.2.2.2]]⟩ : List Diii × Int × Int × Int × List Diiii × Int × Int × Int × Int × Int → St)) (fun _ => rfl) ?_ d _ h
  intro n1 x1 h K1 hn1
  replace h : chase_behind_L1 d  (iter (chase_behind_L1 d ) n1) x1 = some r := h
  generalize iter (chase_behind_L1 d ) n1 = self1 at h hn1
  unfold chase_behind_L1 at h
  refine run_seq ?_
  refine run_reg hm hT hC (chase_behind_g5 (chase_behind_K d) x1) h ?_
  intro y5 h
  refine cn_then ?_
  refine run_seq ?_
  refine run_cond (v := y5.2.2.2.1) (by kernel_rfl) h ?_ ?_
  ·
    intro h
    refine run_skip ?_
    refine cn_then ?_
    refine run_join (r := r) (F := chase_behind_J2 d self1) (S := (fun z => ⟨[(4, .ptr 0 0), (9, .ptr 1 0), (10, .fn 106 [.ptr 3 0, .ptr 4 0, .ptr 1 0, .ptr 0 0]), (21, .fz Riii z.1), (22, .int .i64 z.2.1), (23, .int .i64 z.2.2.1)], [.cells [.int .i64 z.2.2.2.1], .cells [.rs 2], .rows Riiii z.2.2.2.2.1, .cells [.int .i64 z.2.2.2.2.2.1, .int .i64 z.2.2.2.2.2.2.1, .int .i64 z.2.2.2.2.2.2.2.1], .cells [.int .i64 z.2.2.2.2.2.2.2.2.1, .int .i64 z.2.2.2.2.2.2.2.2.2]]⟩ : List Diii × Int × Int × Int × List Diiii × Int × Int × Int × Int × Int → St)) ?_ ?_
    ·
      intro z h
      unfold chase_behind_J2 at h
      refine run_reg hm hT hC (chase_behind_g9 (chase_behind_K d) z) h ?_
      intro y9 h
      exact hn1 _ h
    intro hj2
    refine run_block ?_
    refine run_seq ?_
    refine run_reg hm hT hC (chase_behind_g6 (chase_behind_K d) y5) h ?_
    intro y6 h
    refine cn_then ?_
    refine run_seq ?_
    refine run_reg hm hT hC (chase_behind_g7 (chase_behind_K d) y6) h ?_
    intro y7 h
    refine cn_then ?_
    refine run_cond (v := y7.2.2.2.1) (by kernel_rfl) h ?_ ?_
    ·
      intro h
      refine run_reg hm hT hC (chase_behind_g8 (chase_behind_K d) y7) h ?_
      intro y8 h
      refine cn_blk ?_
      exact hj2 _ h
    ·
      intro h
      refine run_skip ?_
      refine cn_blk ?_
      refine cn_num (s := ⟨[(4, .ptr 0 0), (9, .ptr 1 0), (10, .fn 106 [.ptr 3 0, .ptr 4 0, .ptr 1 0, .ptr 0 0]), (21, .fz Riii y7.1), (22, .int .i64 y7.2.1), (23, .int .i64 y7.2.2.1)], [.cells [.int .i64 y7.2.2.2.2.1], .cells [.rs 2], .rows Riiii y7.2.2.2.2.2.1, .cells [.int .i64 y7.2.2.2.2.2.2.1, .int .i64 y7.2.2.2.2.2.2.2.1, .int .i64 y7.2.2.2.2.2.2.2.2.1], .cells [.int .i64 y7.2.2.2.2.2.2.2.2.2.1, .int .i64 y7.2.2.2.2.2.2.2.2.2.2.1]]⟩) [12, 30] (by kernel_rfl) ?_
      exact hj2 _ h
  ·
    intro h
    refine run_exit ?_
    refine cn_then_exit ?_
    refine cn_then_exit ?_
    refine cn_blk_eq ?_
    refine cn_then ?_
    refine run_seq ?_
    refine run_reg hm hT hC (chase_behind_g10 (chase_behind_K d) y5) h ?_
    intro y10 h
    refine cn_then ?_
    refine run_seq ?_
    refine run_reg hm hT hC (chase_behind_g11 (chase_behind_K d) y10) h ?_
    intro y11 h
    refine cn_then ?_
    refine run_ret ?_
    cases h
    exact (hend _ (by kernel_rfl)).2
abbrev chase_Plan_ps : List Pk := [.row RLiiiE true, .row Ri false, .row Rii true, .row Ri false]
abbrev chase_Plan_X : Type := DLiiiE × Di × Dii × Di × Unit
abbrev chase_Plan_R : Type := List Diiii × Int
def chase_Plan_enc (r : chase_Plan_R) : LV × List Ob := (.tup [.fz Riiii r.1, .int .i64 r.2], [])
def chase_Plan_sp (F : chase_Plan_X → Option chase_Plan_R) : Go.Tx.Spec := ⟨30, chase_Plan_ps, chase_Plan_R, F, chase_Plan_enc⟩
abbrev chase_Plan_C : Type := (chase_check_X → Option chase_check_R) × (chase_behind_X → Option chase_behind_R) × Unit
def chase_Plan_K (d : Nat) : chase_Plan_C := (F_chase_check d, F_chase_behind d, ())
def chase_Plan_tab (C : chase_Plan_C) : List Go.Tx.Spec := [chase_check_sp C.1, chase_behind_sp C.2.1]
abbrev chase_Plan_Y0i : Type := List Diii × Int × Int × Int × Int
def chase_Plan_S0i (v : chase_Plan_Y0i) : St := ⟨[(0, .agg [.fz Riii v.1]), (1, .int .i64 v.2.1), (2, .agg [.int .i64 v.2.2.1, .int .i64 v.2.2.2.1]), (3, .int .i64 v.2.2.2.2)], []⟩
abbrev chase_Plan_Y0 : Type := Int × Int × List Diii × Int × Int
def chase_Plan_S0 (v : chase_Plan_Y0) : St := ⟨[(1, .int .i64 v.1), (3, .int .i64 v.2.1), (4, .ptr 0 0), (6, .ptr 1 0)], [.cells [.fz Riii v.2.2.1], .cells [.int .i64 v.2.2.2.1, .int .i64 v.2.2.2.2]]⟩
def chase_Plan_r0 (C : chase_Plan_C) (v : chase_Plan_Y0i) : Dt chase_Plan_Y0 := (Dt.ret (v.2.1, v.2.2.2.2, v.1, v.2.2.1, v.2.2.2.1))
theorem chase_Plan_g0 (C : chase_Plan_C) (v : chase_Plan_Y0i) : treg tysT (orc (chase_Plan_tab C)) 30 (regO (bodyOf f30) 0) false [(1, .any), (3, .any), (4, (.box [.val Riii])), (6, .any)] (chase_Plan_S0i v) some = (chase_Plan_r0 C v).eval fun y => some (chase_Plan_S0 y) := by kernel_rfl
abbrev chase_Plan_Y1 : Type := Int × Int × Int × List Diii × Int × Int
def chase_Plan_S1 (v : chase_Plan_Y1) : St := ⟨[(1, .int .i64 v.1), (3, .int .i64 v.2.1), (4, .ptr 0 0), (6, .ptr 1 0), (10, .int .i64 v.2.2.1)], [.cells [.fz Riii v.2.2.2.1], .cells [.int .i64 v.2.2.2.2.1, .int .i64 v.2.2.2.2.2]]⟩
def chase_Plan_r1 (C : chase_Plan_C) (v : chase_Plan_Y0) : Dt chase_Plan_Y1 := (Dt.bnd (C.1 ((v.2.2.1, ()), (v.1, ()), (v.2.2.2.1, v.2.2.2.2, ()), (v.2.1, ()), ())) fun r1 => (Dt.ret (v.1, v.2.1, r1, v.2.2.1, v.2.2.2.1, v.2.2.2.2)))
theorem chase_Plan_g1 (C : chase_Plan_C) (v : chase_Plan_Y0) : treg tysT (orc (chase_Plan_tab C)) 30 (regO (bodyOf f30) 1) false [(1, .any), (3, .any), (4, (.box [.val Riii])), (6, .any), (10, .any)] (chase_Plan_S0 v) some = (chase_Plan_r1 C v).eval fun y => some (chase_Plan_S1 y) := by kernel_rfl
abbrev chase_Plan_Y2 : Type := Int × Int × Int × Bool × List Diii × Int × Int
def chase_Plan_S2 (v : chase_Plan_Y2) : St := ⟨[(1, .int .i64 v.1), (3, .int .i64 v.2.1), (4, .ptr 0 0), (6, .ptr 1 0), (10, .int .i64 v.2.2.1), (18, .bool v.2.2.2.1)], [.cells [.fz Riii v.2.2.2.2.1], .cells [.int .i64 v.2.2.2.2.2.1, .int .i64 v.2.2.2.2.2.2]]⟩
def chase_Plan_r2 (C : chase_Plan_C) (v : chase_Plan_Y1) : Dt chase_Plan_Y2 := (Dt.ret (v.1, v.2.1, v.2.2.1, (v.2.2.1 != (0:Int)), v.2.2.2.1, v.2.2.2.2.1, v.2.2.2.2.2))
theorem chase_Plan_g2 (C : chase_Plan_C) (v : chase_Plan_Y1) : treg tysT (orc (chase_Plan_tab C)) 30 (regO (bodyOf f30) 2) false [(1, .any), (3, .any), (4, (.box [.val Riii])), (6, .any), (10, .any), (18, .any)] (chase_Plan_S1 v) some = (chase_Plan_r2 C v).eval fun y => some (chase_Plan_S2 y) := by kernel_rfl
abbrev chase_Plan_Y3 : Type := List Diiii × Int
def chase_Plan_S3 (v : chase_Plan_Y3) : St := ⟨[(8, .fz Riiii v.1), (9, .int .i64 v.2)], []⟩
def chase_Plan_r3 (C : chase_Plan_C) (v : chase_Plan_Y2) : Dt chase_Plan_Y3 := (Dt.ret (([] : List Diiii), v.2.2.1))
theorem chase_Plan_g3 (C : chase_Plan_C) (v : chase_Plan_Y2) : treg tysT (orc (chase_Plan_tab C)) 30 (regO (bodyOf f30) 3) false [(8, (.val Riiii)), (9, .any)] (chase_Plan_S2 v) some = (chase_Plan_r3 C v).eval fun y => some (chase_Plan_S3 y) := by kernel_rfl
abbrev chase_Plan_Y4 : Type := Int × List Diiii
def chase_Plan_S4 (v : chase_Plan_Y4) : St := ⟨[(3, .int .i64 v.1), (11, .rs 0)], [.rows Riiii v.2]⟩
def chase_Plan_r4 (C : chase_Plan_C) (v : chase_Plan_Y2) : Dt chase_Plan_Y4 := (Dt.bnd (C.2.1 ((v.2.2.2.2.1, ()), (v.1, ()), (v.2.2.2.2.2.1, v.2.2.2.2.2.2, ()), ())) fun r1 => (Dt.ret (v.2.1, r1)))
theorem chase_Plan_g4 (C : chase_Plan_C) (v : chase_Plan_Y2) : treg tysT (orc (chase_Plan_tab C)) 30 (regO (bodyOf f30) 4) false [(3, .any), (11, (.own Riiii))] (chase_Plan_S2 v) some = (chase_Plan_r4 C v).eval fun y => some (chase_Plan_S4 y) := by kernel_rfl
def chase_Plan_r5 (C : chase_Plan_C) (v : chase_Plan_Y4) : Dt chase_Plan_Y3 := (Dt.ite (decide (0 ≤ (tmin v.1 (List.length v.2 : Int))) && decide ((tmin v.1 (List.length v.2 : Int)) ≤ (List.length v.2 : Int))) (Dt.ret ((List.take ((tmin v.1 (List.length v.2 : Int))).toNat v.2), (0:Int))) Dt.fail)
theorem chase_Plan_g5 (C : chase_Plan_C) (v : chase_Plan_Y4) : treg tysT (orc (chase_Plan_tab C)) 30 (regO (bodyOf f30) 5) false [(8, (.val Riiii)), (9, .any)] (chase_Plan_S4 v) some = (chase_Plan_r5 C v).eval fun y => some (chase_Plan_S3 y) := by kernel_rfl
def F_chase_Plan (d : Nat) (x : chase_Plan_X) : Option chase_Plan_R :=
  (chase_Plan_r0 (chase_Plan_K d) (x.1.1, x.2.1.1, x.2.2.1.1, x.2.2.1.2.1, x.2.2.2.1.1)).eval fun y0 =>
  (chase_Plan_r1 (chase_Plan_K d) y0).eval fun y1 =>
  (chase_Plan_r2 (chase_Plan_K d) y1).eval fun y2 =>
  bif y2.2.2.2.1 then ((chase_Plan_r3 (chase_Plan_K d) y2).eval fun y3 =>
  some y3) else ((chase_Plan_r4 (chase_Plan_K d) y2).eval fun y4 =>
  (chase_Plan_r5 (chase_Plan_K d) y4).eval fun y5 =>
  some y5)
theorem chase_Plan_cok (d : Nat) : COK prog (chase_Plan_sp (F_chase_Plan d)) := by
  have hm : prog.follows .mixedOrders = true := mixed
  have hT := tys
  have hC0 : OrcOK prog (orc (chase_Plan_tab (chase_Plan_K d))) := orc_ok (by
    intro S hS
    simp only [chase_Plan_tab, List.mem_cons, List.not_mem_nil, or_false] at hS
    rcases hS with rfl | rfl
    · exact chase_check_cok d
    · exact chase_behind_cok d)
  have hC : OrcOK prog (orc (chase_Plan_tab (chase_Plan_K d))) := hC0
  refine cok_of (c := bodyOf f30) (fn := f30) hT (by kernel_rfl) (by kernel_rfl) (by decide) fun x r h w0 φ0 Q hend => ?_
  replace h : F_chase_Plan d x = some r := h
  unfold F_chase_Plan at h
  show Run prog w0 φ0 30 (bodyOf f30) ⟨[(0, .agg [.fz Riii x.1.1]), (1, .int .i64 x.2.1.1), (2, .agg [.int .i64 x.2.2.1.1, .int .i64 x.2.2.1.2.1]), (3, .int .i64 x.2.2.2.1.1)], []⟩ Q
  refine run_seq ?_
  refine run_reg hm hT hC (chase_Plan_g0 (chase_Plan_K d) (x.1.1, x.2.1.1, x.2.2.1.1, x.2.2.1.2.1, x.2.2.2.1.1)) h ?_
  intro y0 h
  refine cn_then ?_
  refine run_seq ?_
  refine run_seq ?_
  refine run_reg hm hT hC (chase_Plan_g1 (chase_Plan_K d) y0) h ?_
  intro y1 h
  refine cn_then ?_
  refine run_seq ?_
  refine run_reg hm hT hC (chase_Plan_g2 (chase_Plan_K d) y1) h ?_
  intro y2 h
  refine cn_then ?_
  refine run_cond (v := y2.2.2.2.1) (by kernel_rfl) h ?_ ?_
  ·
    intro h
    refine run_seq ?_
    refine run_reg hm hT hC (chase_Plan_g3 (chase_Plan_K d) y2) h ?_
    intro y3 h
    refine cn_then ?_
    refine run_ret ?_
    refine cn_then_ret ?_
    cases h
    exact (hend _ (by kernel_rfl)).2
  ·
    intro h
    refine run_skip ?_
    refine cn_then ?_
    refine run_seq ?_
    refine run_reg hm hT hC (chase_Plan_g4 (chase_Plan_K d) y2) h ?_
    intro y4 h
    refine cn_then ?_
    refine run_seq ?_
    refine run_reg hm hT hC (chase_Plan_g5 (chase_Plan_K d) y4) h ?_
    intro y5 h
    refine cn_then ?_
    refine run_ret ?_
    cases h
    exact (hend _ (by kernel_rfl)).2
abbrev chase_Next_ps : List Pk := [.row RLiiiE true, .row Ri false, .row Rii true]
abbrev chase_Next_X : Type := DLiiiE × Di × Dii × Unit
abbrev chase_Next_R : Type := Int × Int × Int × Int × Int
def chase_Next_enc (r : chase_Next_R) : LV × List Ob := (.tup [.agg [.int .i64 r.1, .int .i64 r.2.1, .int .i64 r.2.2.1, .int .i64 r.2.2.2.1], .int .i64 r.2.2.2.2], [])
def chase_Next_sp (F : chase_Next_X → Option chase_Next_R) : Go.Tx.Spec := ⟨28, chase_Next_ps, chase_Next_R, F, chase_Next_enc⟩
abbrev chase_Next_C : Type := (chase_Plan_X → Option chase_Plan_R) × Unit
def chase_Next_K (d : Nat) : chase_Next_C := (F_chase_Plan d, ())
def chase_Next_tab (C : chase_Next_C) : List Go.Tx.Spec := [chase_Plan_sp C.1]
abbrev chase_Next_Y0i : Type := List Diii × Int × Int × Int
def chase_Next_S0i (v : chase_Next_Y0i) : St := ⟨[(0, .agg [.fz Riii v.1]), (1, .int .i64 v.2.1), (2, .agg [.int .i64 v.2.2.1, .int .i64 v.2.2.2])], []⟩
abbrev chase_Next_Y0 : Type := Int × List Diii × Int × Int × Int × Int × Int × Int
def chase_Next_S0 (v : chase_Next_Y0) : St := ⟨[(1, .int .i64 v.1), (3, .ptr 0 0), (5, .ptr 1 0), (6, .ptr 2 0)], [.cells [.fz Riii v.2.1], .cells [.int .i64 v.2.2.1, .int .i64 v.2.2.2.1], .cells [.int .i64 v.2.2.2.2.1, .int .i64 v.2.2.2.2.2.1, .int .i64 v.2.2.2.2.2.2.1, .int .i64 v.2.2.2.2.2.2.2]]⟩
def chase_Next_r0 (C : chase_Next_C) (v : chase_Next_Y0i) : Dt chase_Next_Y0 := (Dt.ret (v.2.1, v.1, v.2.2.1, v.2.2.2, (0:Int), (0:Int), (0:Int), (0:Int)))
theorem chase_Next_g0 (C : chase_Next_C) (v : chase_Next_Y0i) : treg tysT (orc (chase_Next_tab C)) 30 (regO (bodyOf f28) 0) false [(1, .any), (3, (.box [.val Riii])), (5, .any), (6, .any)] (chase_Next_S0i v) some = (chase_Next_r0 C v).eval fun y => some (chase_Next_S0 y) := by kernel_rfl
abbrev chase_Next_Y1 : Type := List Diiii × Int × Int × Int × Int × Int
def chase_Next_S1 (v : chase_Next_Y1) : St := ⟨[(6, .ptr 0 0), (8, .fz Riiii v.1), (9, .int .i64 v.2.1)], [.cells [.int .i64 v.2.2.1, .int .i64 v.2.2.2.1, .int .i64 v.2.2.2.2.1, .int .i64 v.2.2.2.2.2]]⟩
def chase_Next_r1 (C : chase_Next_C) (v : chase_Next_Y0) : Dt chase_Next_Y1 := (Dt.bnd (C.1 ((v.2.1, ()), (v.1, ()), (v.2.2.1, v.2.2.2.1, ()), ((1:Int), ()), ())) fun r1 => (Dt.ret (r1.1, r1.2, v.2.2.2.2.1, v.2.2.2.2.2.1, v.2.2.2.2.2.2.1, v.2.2.2.2.2.2.2)))
theorem chase_Next_g1 (C : chase_Next_C) (v : chase_Next_Y0) : treg tysT (orc (chase_Next_tab C)) 30 (regO (bodyOf f28) 1) false [(6, .any), (8, (.val Riiii)), (9, .any)] (chase_Next_S0 v) some = (chase_Next_r1 C v).eval fun y => some (chase_Next_S1 y) := by kernel_rfl
abbrev chase_Next_Y2 : Type := List Diiii × Int × Bool × Int × Int × Int × Int
def chase_Next_S2 (v : chase_Next_Y2) : St := ⟨[(6, .ptr 0 0), (8, .fz Riiii v.1), (9, .int .i64 v.2.1), (17, .bool v.2.2.1)], [.cells [.int .i64 v.2.2.2.1, .int .i64 v.2.2.2.2.1, .int .i64 v.2.2.2.2.2.1, .int .i64 v.2.2.2.2.2.2]]⟩
def chase_Next_r2 (C : chase_Next_C) (v : chase_Next_Y1) : Dt chase_Next_Y2 := (Dt.ret (v.1, v.2.1, (v.2.1 != (0:Int)), v.2.2.1, v.2.2.2.1, v.2.2.2.2.1, v.2.2.2.2.2))
theorem chase_Next_g2 (C : chase_Next_C) (v : chase_Next_Y1) : treg tysT (orc (chase_Next_tab C)) 30 (regO (bodyOf f28) 2) false [(6, .any), (8, (.val Riiii)), (9, .any), (17, .any)] (chase_Next_S1 v) some = (chase_Next_r2 C v).eval fun y => some (chase_Next_S2 y) := by kernel_rfl
abbrev chase_Next_Y3 : Type := Int × Int × Int × Int × Int
def chase_Next_S3 (v : chase_Next_Y3) : St := ⟨[(6, .ptr 0 0), (7, .int .i64 v.1)], [.cells [.int .i64 v.2.1, .int .i64 v.2.2.1, .int .i64 v.2.2.2.1, .int .i64 v.2.2.2.2]]⟩
def chase_Next_r3 (C : chase_Next_C) (v : chase_Next_Y2) : Dt chase_Next_Y3 := (Dt.ret (v.2.1, (0:Int), (0:Int), (0:Int), (0:Int)))
theorem chase_Next_g3 (C : chase_Next_C) (v : chase_Next_Y2) : treg tysT (orc (chase_Next_tab C)) 30 (regO (bodyOf f28) 3) false [(6, .any), (7, .any)] (chase_Next_S2 v) some = (chase_Next_r3 C v).eval fun y => some (chase_Next_S3 y) := by kernel_rfl
abbrev chase_Next_Y4 : Type := List Diiii × Bool × Int × Int × Int × Int
def chase_Next_S4 (v : chase_Next_Y4) : St := ⟨[(6, .ptr 0 0), (8, .fz Riiii v.1), (22, .bool v.2.1)], [.cells [.int .i64 v.2.2.1, .int .i64 v.2.2.2.1, .int .i64 v.2.2.2.2.1, .int .i64 v.2.2.2.2.2]]⟩
def chase_Next_r4 (C : chase_Next_C) (v : chase_Next_Y2) : Dt chase_Next_Y4 := (Dt.ret (v.1, ((List.length v.1 : Int) == (0:Int)), v.2.2.2.1, v.2.2.2.2.1, v.2.2.2.2.2.1, v.2.2.2.2.2.2))
theorem chase_Next_g4 (C : chase_Next_C) (v : chase_Next_Y2) : treg tysT (orc (chase_Next_tab C)) 30 (regO (bodyOf f28) 4) false [(6, .any), (8, (.val Riiii)), (22, .any)] (chase_Next_S2 v) some = (chase_Next_r4 C v).eval fun y => some (chase_Next_S4 y) := by kernel_rfl
def chase_Next_r5 (C : chase_Next_C) (v : chase_Next_Y4) : Dt chase_Next_Y3 := (Dt.ret ((6:Int), (0:Int), (0:Int), (0:Int), (0:Int)))
theorem chase_Next_g5 (C : chase_Next_C) (v : chase_Next_Y4) : treg tysT (orc (chase_Next_tab C)) 30 (regO (bodyOf f28) 5) false [(6, .any), (7, .any)] (chase_Next_S4 v) some = (chase_Next_r5 C v).eval fun y => some (chase_Next_S3 y) := by kernel_rfl
def chase_Next_r6 (C : chase_Next_C) (v : chase_Next_Y4) : Dt chase_Next_Y3 := (Dt.ite (inB (0:Int) (List.length v.1)) (Dt.ret ((0:Int), (elt ziiii v.1 ((0:Int)).toNat).1, (elt ziiii v.1 ((0:Int)).toNat).2.1, (elt ziiii v.1 ((0:Int)).toNat).2.2.1, (elt ziiii v.1 ((0:Int)).toNat).2.2.2.1)) Dt.fail)
theorem chase_Next_g6 (C : chase_Next_C) (v : chase_Next_Y4) : treg tysT (orc (chase_Next_tab C)) 30 (regO (bodyOf f28) 6) false [(6, .any), (7, .any)] (chase_Next_S4 v) some = (chase_Next_r6 C v).eval fun y => some (chase_Next_S3 y) := by kernel_rfl
def F_chase_Next (d : Nat) (x : chase_Next_X) : Option chase_Next_R :=
  (chase_Next_r0 (chase_Next_K d) (x.1.1, x.2.1.1, x.2.2.1.1, x.2.2.1.2.1)).eval fun y0 =>
  (chase_Next_r1 (chase_Next_K d) y0).eval fun y1 =>
  (chase_Next_r2 (chase_Next_K d) y1).eval fun y2 =>
  bif y2.2.2.1 then ((chase_Next_r3 (chase_Next_K d) y2).eval fun y3 =>
  some (y3.2.1, y3.2.2.1, y3.2.2.2.1, y3.2.2.2.2, y3.1)) else ((chase_Next_r4 (chase_Next_K d) y2).eval fun y4 =>
  bif y4.2.1 then ((chase_Next_r5 (chase_Next_K d) y4).eval fun y5 =>
  some (y5.2.1, y5.2.2.1, y5.2.2.2.1, y5.2.2.2.2, y5.1)) else ((chase_Next_r6 (chase_Next_K d) y4).eval fun y6 =>
  some (y6.2.1, y6.2.2.1, y6.2.2.2.1, y6.2.2.2.2, y6.1)))
theorem chase_Next_cok (d : Nat) : COK prog (chase_Next_sp (F_chase_Next d)) := by
  have hm : prog.follows .mixedOrders = true := mixed
  have hT := tys
  have hC0 : OrcOK prog (orc (chase_Next_tab (chase_Next_K d))) := orc_ok (by
    intro S hS
    simp only [chase_Next_tab, List.mem_cons, List.not_mem_nil, or_false] at hS
    subst hS; exact chase_Plan_cok d)
  have hC : OrcOK prog (orc (chase_Next_tab (chase_Next_K d))) := hC0
  refine cok_of (c := bodyOf f28) (fn := f28) hT (by kernel_rfl) (by kernel_rfl) (by decide) fun x r h w0 φ0 Q hend => ?_
  replace h : F_chase_Next d x = some r := h
  unfold F_chase_Next at h
  show Run prog w0 φ0 30 (bodyOf f28) ⟨[(0, .agg [.fz Riii x.1.1]), (1, .int .i64 x.2.1.1), (2, .agg [.int .i64 x.2.2.1.1, .int .i64 x.2.2.1.2.1])], []⟩ Q
  refine run_seq ?_
  refine run_reg hm hT hC (chase_Next_g0 (chase_Next_K d) (x.1.1, x.2.1.1, x.2.2.1.1, x.2.2.1.2.1)) h ?_
  intro y0 h
  refine cn_then ?_
  refine run_seq ?_
  refine run_reg hm hT hC (chase_Next_g1 (chase_Next_K d) y0) h ?_
  intro y1 h
  refine cn_then ?_
  refine run_seq ?_
  refine run_block ?_
  refine run_seq ?_
  refine run_reg hm hT hC (chase_Next_g2 (chase_Next_K d) y1) h ?_
  intro y2 h
  refine cn_then ?_
  refine run_cond (v := y2.2.2.1) (by kernel_rfl) h ?_ ?_
  ·
    intro h
    refine run_seq ?_
    refine run_reg hm hT hC (chase_Next_g3 (chase_Next_K d) y2) h ?_
    intro y3 h
    refine cn_then ?_
    refine run_ret ?_
    refine cn_blk_ret ?_
    refine cn_then_ret ?_
    cases h
    exact (hend _ (by kernel_rfl)).2
  ·
    intro h
    refine run_seq ?_
    refine run_reg hm hT hC (chase_Next_g4 (chase_Next_K d) y2) h ?_
    intro y4 h
    refine cn_then ?_
    refine run_cond (v := y4.2.1) (by kernel_rfl) h ?_ ?_
    ·
      intro h
      refine run_seq ?_
      refine run_reg hm hT hC (chase_Next_g5 (chase_Next_K d) y4) h ?_
      intro y5 h
      refine cn_then ?_
      refine run_ret ?_
      refine cn_blk_ret ?_
      refine cn_then_ret ?_
      cases h
      exact (hend _ (by kernel_rfl)).2
    ·
      intro h
      refine run_skip ?_
      refine cn_blk ?_
      refine cn_then ?_
      refine run_seq ?_
      refine run_reg hm hT hC (chase_Next_g6 (chase_Next_K d) y4) h ?_
      intro y6 h
      refine cn_then ?_
      refine run_ret ?_
      cases h
      exact (hend _ (by kernel_rfl)).2
abbrev chase_Chain_ps : List Pk := [.row RLiiiE true, .row Ri false, .row Rii true, .row Ri false]
abbrev chase_Chain_X : Type := DLiiiE × Di × Dii × Di × Unit
abbrev chase_Chain_R : Type := List Diiii × Int
def chase_Chain_enc (r : chase_Chain_R) : LV × List Ob := (.tup [.rs 0, .int .i64 r.2], [.rows Riiii r.1])
def chase_Chain_sp (F : chase_Chain_X → Option chase_Chain_R) : Go.Tx.Spec := ⟨32, chase_Chain_ps, chase_Chain_R, F, chase_Chain_enc⟩
abbrev chase_Chain_C : Type := (chase_Next_X → Option chase_Next_R) × (chase_check_X → Option chase_check_R) × (chase_other_X → Option chase_other_R) × Unit
def chase_Chain_K (d : Nat) : chase_Chain_C := (F_chase_Next d, F_chase_check d, F_chase_other d, ())
def chase_Chain_tab (C : chase_Chain_C) : List Go.Tx.Spec := [chase_Next_sp C.1, chase_check_sp C.2.1, chase_other_sp C.2.2.1]
abbrev chase_Chain_Y0i : Type := List Diii × Int × Int × Int × Int
def chase_Chain_S0i (v : chase_Chain_Y0i) : St := ⟨[(0, .agg [.fz Riii v.1]), (1, .int .i64 v.2.1), (2, .agg [.int .i64 v.2.2.1, .int .i64 v.2.2.2.1]), (3, .int .i64 v.2.2.2.2)], []⟩
abbrev chase_Chain_Y0 : Type := Int × Int × List Diii × Int × Int
def chase_Chain_S0 (v : chase_Chain_Y0) : St := ⟨[(1, .int .i64 v.1), (3, .int .i64 v.2.1), (4, .ptr 0 0), (6, .ptr 1 0)], [.cells [.fz Riii v.2.2.1], .cells [.int .i64 v.2.2.2.1, .int .i64 v.2.2.2.2]]⟩
def chase_Chain_r0 (C : chase_Chain_C) (v : chase_Chain_Y0i) : Dt chase_Chain_Y0 := (Dt.ret (v.2.1, v.2.2.2.2, v.1, v.2.2.1, v.2.2.2.1))
theorem chase_Chain_g0 (C : chase_Chain_C) (v : chase_Chain_Y0i) : treg tysT (orc (chase_Chain_tab C)) 45 (regO (bodyOf f32) 0) false [(1, .any), (3, .any), (4, (.box [.val Riii])), (6, .any)] (chase_Chain_S0i v) some = (chase_Chain_r0 C v).eval fun y => some (chase_Chain_S0 y) := by kernel_rfl
abbrev chase_Chain_Y1 : Type := Int × Int × Int × List Diii × Int × Int
def chase_Chain_S1 (v : chase_Chain_Y1) : St := ⟨[(1, .int .i64 v.1), (3, .int .i64 v.2.1), (4, .ptr 0 0), (6, .ptr 1 0), (10, .int .i64 v.2.2.1)], [.cells [.fz Riii v.2.2.2.1], .cells [.int .i64 v.2.2.2.2.1, .int .i64 v.2.2.2.2.2]]⟩
def chase_Chain_r1 (C : chase_Chain_C) (v : chase_Chain_Y0) : Dt chase_Chain_Y1 := (Dt.bnd (C.2.1 ((v.2.2.1, ()), (v.1, ()), (v.2.2.2.1, v.2.2.2.2, ()), (v.2.1, ()), ())) fun r1 => (Dt.ret (v.1, v.2.1, r1, v.2.2.1, v.2.2.2.1, v.2.2.2.2)))
theorem chase_Chain_g1 (C : chase_Chain_C) (v : chase_Chain_Y0) : treg tysT (orc (chase_Chain_tab C)) 45 (regO (bodyOf f32) 1) false [(1, .any), (3, .any), (4, (.box [.val Riii])), (6, .any), (10, .any)] (chase_Chain_S0 v) some = (chase_Chain_r1 C v).eval fun y => some (chase_Chain_S1 y) := by kernel_rfl
abbrev chase_Chain_Y2 : Type := Int × Int × Int × Bool × List Diii × Int × Int
def chase_Chain_S2 (v : chase_Chain_Y2) : St := ⟨[(1, .int .i64 v.1), (3, .int .i64 v.2.1), (4, .ptr 0 0), (6, .ptr 1 0), (10, .int .i64 v.2.2.1), (20, .bool v.2.2.2.1)], [.cells [.fz Riii v.2.2.2.2.1], .cells [.int .i64 v.2.2.2.2.2.1, .int .i64 v.2.2.2.2.2.2]]⟩
def chase_Chain_r2 (C : chase_Chain_C) (v : chase_Chain_Y1) : Dt chase_Chain_Y2 := (Dt.ret (v.1, v.2.1, v.2.2.1, (v.2.2.1 != (0:Int)), v.2.2.2.1, v.2.2.2.2.1, v.2.2.2.2.2))
theorem chase_Chain_g2 (C : chase_Chain_C) (v : chase_Chain_Y1) : treg tysT (orc (chase_Chain_tab C)) 45 (regO (bodyOf f32) 2) false [(1, .any), (3, .any), (4, (.box [.val Riii])), (6, .any), (10, .any), (20, .any)] (chase_Chain_S1 v) some = (chase_Chain_r2 C v).eval fun y => some (chase_Chain_S2 y) := by kernel_rfl
abbrev chase_Chain_Y3 : Type := Int × List Diiii
def chase_Chain_S3 (v : chase_Chain_Y3) : St := ⟨[(8, .rs 0), (9, .int .i64 v.1)], [.rows Riiii v.2]⟩
def chase_Chain_r3 (C : chase_Chain_C) (v : chase_Chain_Y2) : Dt chase_Chain_Y3 := (Dt.ret (v.2.2.1, ([] : List Diiii)))
theorem chase_Chain_g3 (C : chase_Chain_C) (v : chase_Chain_Y2) : treg tysT (orc (chase_Chain_tab C)) 45 (regO (bodyOf f32) 3) false [(8, (.own Riiii)), (9, .any)] (chase_Chain_S2 v) some = (chase_Chain_r3 C v).eval fun y => some (chase_Chain_S3 y) := by kernel_rfl
abbrev chase_Chain_Y4 : Type := Int × Int × List Diii × Int × Int × List Diiii
def chase_Chain_S4 (v : chase_Chain_Y4) : St := ⟨[(1, .int .i64 v.1), (3, .int .i64 v.2.1), (4, .ptr 0 0), (6, .ptr 1 0), (11, .rs 2)], [.cells [.fz Riii v.2.2.1], .cells [.int .i64 v.2.2.2.1, .int .i64 v.2.2.2.2.1], .rows Riiii v.2.2.2.2.2]⟩
def chase_Chain_r4 (C : chase_Chain_C) (v : chase_Chain_Y2) : Dt chase_Chain_Y4 := (Dt.ret (v.1, v.2.1, v.2.2.2.2.1, v.2.2.2.2.2.1, v.2.2.2.2.2.2, ([] : List Diiii)))
theorem chase_Chain_g4 (C : chase_Chain_C) (v : chase_Chain_Y2) : treg tysT (orc (chase_Chain_tab C)) 45 (regO (bodyOf f32) 4) false [(1, .any), (3, .any), (4, (.box [.val Riii])), (6, .any), (11, (.own Riiii))] (chase_Chain_S2 v) some = (chase_Chain_r4 C v).eval fun y => some (chase_Chain_S4 y) := by kernel_rfl
abbrev chase_Chain_Y5 : Type := Int × Int × Bool × List Diii × Int × Int × List Diiii
def chase_Chain_S5 (v : chase_Chain_Y5) : St := ⟨[(1, .int .i64 v.1), (3, .int .i64 v.2.1), (4, .ptr 0 0), (6, .ptr 1 0), (11, .rs 2), (25, .bool v.2.2.1)], [.cells [.fz Riii v.2.2.2.1], .cells [.int .i64 v.2.2.2.2.1, .int .i64 v.2.2.2.2.2.1], .rows Riiii v.2.2.2.2.2.2]⟩
def chase_Chain_r5 (C : chase_Chain_C) (v : chase_Chain_Y4) : Dt chase_Chain_Y5 := (Dt.ret (v.1, v.2.1, (decide ((List.length v.2.2.2.2.2 : Int) < v.2.1)), v.2.2.1, v.2.2.2.1, v.2.2.2.2.1, v.2.2.2.2.2))
theorem chase_Chain_g5 (C : chase_Chain_C) (v : chase_Chain_Y4) : treg tysT (orc (chase_Chain_tab C)) 45 (regO (bodyOf f32) 5) false [(1, .any), (3, .any), (4, (.box [.val Riii])), (6, .any), (11, (.own Riiii)), (25, .any)] (chase_Chain_S4 v) some = (chase_Chain_r5 C v).eval fun y => some (chase_Chain_S5 y) := by kernel_rfl
abbrev chase_Chain_Y6 : Type := Int × Int × Int × List Diii × Int × Int × List Diiii × Int × Int × Int × Int
def chase_Chain_S6 (v : chase_Chain_Y6) : St := ⟨[(1, .int .i64 v.1), (3, .int .i64 v.2.1), (4, .ptr 0 0), (6, .ptr 1 0), (11, .rs 2), (12, .ptr 3 0), (13, .int .i64 v.2.2.1)], [.cells [.fz Riii v.2.2.2.1], .cells [.int .i64 v.2.2.2.2.1, .int .i64 v.2.2.2.2.2.1], .rows Riiii v.2.2.2.2.2.2.1, .cells [.int .i64 v.2.2.2.2.2.2.2.1, .int .i64 v.2.2.2.2.2.2.2.2.1, .int .i64 v.2.2.2.2.2.2.2.2.2.1, .int .i64 v.2.2.2.2.2.2.2.2.2.2]]⟩
def chase_Chain_r6 (C : chase_Chain_C) (v : chase_Chain_Y5) : Dt chase_Chain_Y6 := (Dt.bnd (C.1 ((v.2.2.2.1, ()), (v.1, ()), (v.2.2.2.2.1, v.2.2.2.2.2.1, ()), ())) fun r1 => (Dt.ret (v.1, v.2.1, r1.2.2.2.2, v.2.2.2.1, v.2.2.2.2.1, v.2.2.2.2.2.1, v.2.2.2.2.2.2, r1.1, r1.2.1, r1.2.2.1, r1.2.2.2.1)))
theorem chase_Chain_g6 (C : chase_Chain_C) (v : chase_Chain_Y5) : treg tysT (orc (chase_Chain_tab C)) 45 (regO (bodyOf f32) 6) false [(1, .any), (3, .any), (4, (.box [.val Riii])), (6, .any), (11, (.own Riiii)), (12, .any), (13, .any)] (chase_Chain_S5 v) some = (chase_Chain_r6 C v).eval fun y => some (chase_Chain_S6 y) := by kernel_rfl
abbrev chase_Chain_Y7 : Type := Int × Int × Bool × List Diii × Int × Int × List Diiii × Int × Int × Int × Int
def chase_Chain_S7 (v : chase_Chain_Y7) : St := ⟨[(1, .int .i64 v.1), (3, .int .i64 v.2.1), (4, .ptr 0 0), (6, .ptr 1 0), (11, .rs 2), (12, .ptr 3 0), (34, .bool v.2.2.1)], [.cells [.fz Riii v.2.2.2.1], .cells [.int .i64 v.2.2.2.2.1, .int .i64 v.2.2.2.2.2.1], .rows Riiii v.2.2.2.2.2.2.1, .cells [.int .i64 v.2.2.2.2.2.2.2.1, .int .i64 v.2.2.2.2.2.2.2.2.1, .int .i64 v.2.2.2.2.2.2.2.2.2.1, .int .i64 v.2.2.2.2.2.2.2.2.2.2]]⟩
def chase_Chain_r7 (C : chase_Chain_C) (v : chase_Chain_Y6) : Dt chase_Chain_Y7 := (Dt.ret (v.1, v.2.1, (v.2.2.1 != (0:Int)), v.2.2.2.1, v.2.2.2.2.1, v.2.2.2.2.2.1, v.2.2.2.2.2.2.1, v.2.2.2.2.2.2.2.1, v.2.2.2.2.2.2.2.2.1, v.2.2.2.2.2.2.2.2.2.1, v.2.2.2.2.2.2.2.2.2.2))
theorem chase_Chain_g7 (C : chase_Chain_C) (v : chase_Chain_Y6) : treg tysT (orc (chase_Chain_tab C)) 45 (regO (bodyOf f32) 7) false [(1, .any), (3, .any), (4, (.box [.val Riii])), (6, .any), (11, (.own Riiii)), (12, .any), (34, .any)] (chase_Chain_S6 v) some = (chase_Chain_r7 C v).eval fun y => some (chase_Chain_S7 y) := by kernel_rfl
def chase_Chain_r10 (C : chase_Chain_C) (v : chase_Chain_Y4) : Dt chase_Chain_Y3 := (Dt.ret ((0:Int), v.2.2.2.2.2))
theorem chase_Chain_g10 (C : chase_Chain_C) (v : chase_Chain_Y4) : treg tysT (orc (chase_Chain_tab C)) 45 (regO (bodyOf f32) 10) false [(8, (.own Riiii)), (9, .any)] (chase_Chain_S4 v) some = (chase_Chain_r10 C v).eval fun y => some (chase_Chain_S3 y) := by kernel_rfl
def chase_Chain_J1  (d : Nat)  (z : Int × Int × List Diii × Int × Int × List Diiii) : Option (chase_Chain_R) :=
  (chase_Chain_r10 (chase_Chain_K d) z).eval fun y10 =>
  some (y10.2, y10.1)
abbrev chase_Chain_Y8 : Type := Int × Int × List Diii × Int × Int × List Diiii × Int × Int × Int × Int
def chase_Chain_S8 (v : chase_Chain_Y8) : St := ⟨[(1, .int .i64 v.1), (3, .int .i64 v.2.1), (4, .ptr 0 0), (6, .ptr 1 0), (11, .rs 2), (12, .ptr 3 0)], [.cells [.fz Riii v.2.2.1], .cells [.int .i64 v.2.2.2.1, .int .i64 v.2.2.2.2.1], .rows Riiii v.2.2.2.2.2.1, .cells [.int .i64 v.2.2.2.2.2.2.1, .int .i64 v.2.2.2.2.2.2.2.1, .int .i64 v.2.2.2.2.2.2.2.2.1, .int .i64 v.2.2.2.2.2.2.2.2.2]]⟩
def chase_Chain_r8 (C : chase_Chain_C) (v : chase_Chain_Y7) : Dt chase_Chain_Y8 := (Dt.ite (apB (List.length v.2.2.2.2.2.2.1) (List.length ([(v.2.2.2.2.2.2.2.1, v.2.2.2.2.2.2.2.2.1, v.2.2.2.2.2.2.2.2.2.1, v.2.2.2.2.2.2.2.2.2.2, ())] : List Diiii))) (Dt.ret (v.1, v.2.1, v.2.2.2.1, v.2.2.2.2.1, v.2.2.2.2.2.1, (v.2.2.2.2.2.2.1 ++ ([(v.2.2.2.2.2.2.2.1, v.2.2.2.2.2.2.2.2.1, v.2.2.2.2.2.2.2.2.2.1, v.2.2.2.2.2.2.2.2.2.2, ())] : List Diiii)), v.2.2.2.2.2.2.2.1, v.2.2.2.2.2.2.2.2.1, v.2.2.2.2.2.2.2.2.2.1, v.2.2.2.2.2.2.2.2.2.2)) Dt.fail)
theorem chase_Chain_g8 (C : chase_Chain_C) (v : chase_Chain_Y7) : treg tysT (orc (chase_Chain_tab C)) 45 (regO (bodyOf f32) 8) false [(1, .any), (3, .any), (4, (.box [.val Riii])), (6, .any), (11, (.own Riiii)), (12, .any)] (chase_Chain_S7 v) some = (chase_Chain_r8 C v).eval fun y => some (chase_Chain_S8 y) := by kernel_rfl
def chase_Chain_r9 (C : chase_Chain_C) (v : chase_Chain_Y8) : Dt chase_Chain_Y4 := (Dt.bnd (C.2.2.1 ((v.2.2.2.2.2.2.1, v.2.2.2.2.2.2.2.1, v.2.2.2.2.2.2.2.2.1, v.2.2.2.2.2.2.2.2.2, ()), (v.1, ()), ())) fun r1 => (Dt.ret (r1, v.2.1, v.2.2.1, v.2.2.2.2.2.2.1, v.2.2.2.2.2.2.2.1, v.2.2.2.2.2.1)))
theorem chase_Chain_g9 (C : chase_Chain_C) (v : chase_Chain_Y8) : treg tysT (orc (chase_Chain_tab C)) 45 (regO (bodyOf f32) 9) true [(1, .any), (3, .any), (4, (.box [.val Riii])), (6, .any), (11, (.own Riiii))] (chase_Chain_S8 v) some = (chase_Chain_r9 C v).eval fun y => some (chase_Chain_S4 y) := by kernel_rfl
def chase_Chain_L2 (d : Nat) (self2 : (Int × Int × List Diii × Int × Int × List Diiii) → Option chase_Chain_R) (x2 : Int × Int × List Diii × Int × Int × List Diiii) : Option chase_Chain_R :=
  (chase_Chain_r5 (chase_Chain_K d) x2).eval fun y5 =>
  bif y5.2.2.1 then ((chase_Chain_r6 (chase_Chain_K d) y5).eval fun y6 =>
  (chase_Chain_r7 (chase_Chain_K d) y6).eval fun y7 =>
  bif y7.2.2.1 then (chase_Chain_J1 d  (y7.1, y7.2.1, y7.2.2.2.1, y7.2.2.2.2.1, y7.2.2.2.2.2.1, y7.2.2.2.2.2.2.1)) else ((chase_Chain_r8 (chase_Chain_K d) y7).eval fun y8 =>
  (chase_Chain_r9 (chase_Chain_K d) y8).eval fun y9 =>
  self2 y9)) else (chase_Chain_J1 d  (y5.1, y5.2.1, y5.2.2.2.1, y5.2.2.2.2.1, y5.2.2.2.2.2.1, y5.2.2.2.2.2.2))
def F_chase_Chain (d : Nat) (x : chase_Chain_X) : Option chase_Chain_R :=
  (chase_Chain_r0 (chase_Chain_K d) (x.1.1, x.2.1.1, x.2.2.1.1, x.2.2.1.2.1, x.2.2.2.1.1)).eval fun y0 =>
  (chase_Chain_r1 (chase_Chain_K d) y0).eval fun y1 =>
  (chase_Chain_r2 (chase_Chain_K d) y1).eval fun y2 =>
  bif y2.2.2.2.1 then ((chase_Chain_r3 (chase_Chain_K d) y2).eval fun y3 =>
  some (y3.2, y3.1)) else ((chase_Chain_r4 (chase_Chain_K d) y2).eval fun y4 =>
  iter (chase_Chain_L2 d ) d y4)
theorem chase_Chain_cok (d : Nat) : COK prog (chase_Chain_sp (F_chase_Chain d)) := by
  have hm : prog.follows .mixedOrders = true := mixed
  have hT := tys
  have hC0 : OrcOK prog (orc (chase_Chain_tab (chase_Chain_K d))) := orc_ok (by
    intro S hS
    simp only [chase_Chain_tab, List.mem_cons, List.not_mem_nil, or_false] at hS
    rcases hS with rfl | rfl | rfl
    · exact chase_Next_cok d
    · exact chase_check_cok d
    · exact chase_other_cok d)
  have hC : OrcOK prog (orc (chase_Chain_tab (chase_Chain_K d))) := hC0
  refine cok_of (c := bodyOf f32) (fn := f32) hT (by kernel_rfl) (by kernel_rfl) (by decide) fun x r h w0 φ0 Q hend => ?_
  replace h : F_chase_Chain d x = some r := h
  unfold F_chase_Chain at h
  show Run prog w0 φ0 45 (bodyOf f32) ⟨[(0, .agg [.fz Riii x.1.1]), (1, .int .i64 x.2.1.1), (2, .agg [.int .i64 x.2.2.1.1, .int .i64 x.2.2.1.2.1]), (3, .int .i64 x.2.2.2.1.1)], []⟩ Q
  refine run_seq ?_
  refine run_reg hm hT hC (chase_Chain_g0 (chase_Chain_K d) (x.1.1, x.2.1.1, x.2.2.1.1, x.2.2.1.2.1, x.2.2.2.1.1)) h ?_
  intro y0 h
  refine cn_then ?_
  refine run_seq ?_
  refine run_seq ?_
  refine run_reg hm hT hC (chase_Chain_g1 (chase_Chain_K d) y0) h ?_
  intro y1 h
  refine cn_then ?_
  refine run_seq ?_
  refine run_reg hm hT hC (chase_Chain_g2 (chase_Chain_K d) y1) h ?_
  intro y2 h
  refine cn_then ?_
  refine run_cond (v := y2.2.2.2.1) (by kernel_rfl) h ?_ ?_
  ·
    intro h
    refine run_seq ?_
    refine run_reg hm hT hC (chase_Chain_g3 (chase_Chain_K d) y2) h ?_
    intro y3 h
    refine cn_then ?_
    refine run_ret ?_
    refine cn_then_ret ?_
    cases h
    exact (hend _ (by kernel_rfl)).2
  ·
    intro h
    refine run_skip ?_
    refine cn_then ?_
    refine run_seq ?_
    refine run_reg hm hT hC (chase_Chain_g4 (chase_Chain_K d) y2) h ?_
    intro y4 h
    refine cn_then ?_
    refine run_join (r := r) (F := chase_Chain_J1 d ) (S := (fun z => ⟨[(1, .int .i64 z.1), (3, .int .i64 z.2.1), (4, .ptr 0 0), (6, .ptr 1 0), (11, .rs 2)], [.cells [.fz Riii z.2.2.1], .cells [.int .i64 z.2.2.2.1, .int .i64 z.2.2.2.2.1], .rows Riiii z.2.2.2.2.2]⟩ : Int × Int × List Diii × Int × Int × List Diiii → St)) ?_ ?_
    ·
      intro z h
      unfold chase_Chain_J1 at h
      refine run_seq ?_
      refine run_reg hm hT hC (chase_Chain_g10 (chase_Chain_K d) z) h ?_
      intro y10 h
      refine cn_then ?_
      refine run_ret ?_
      cases h
      exact (hend _ (by kernel_rfl)).2
    intro hj1
    refine run_block ?_
    refine run_loop (G := iter (chase_Chain_L2 d )) (S := (fun x2 => ⟨[(1, .int .i64 x2.1), (3, .int .i64 x2.2.1), (4, .ptr 0 0), (6, .ptr 1 0), (11, .rs 2)], [.cells [.fz Riii x2.2.2.1], .cells [.int .i64 x2.2.2.2.1, .int .i64 x2.2.2.2.2.1], .rows Riiii x2.2.2.2.2.2]⟩ : Int × Int × List Diii × Int × Int × List Diiii → St)) (fun _ => rfl) ?_ d _ h
    intro n2 x2 h K2 hn2
    replace h : chase_Chain_L2 d  (iter (chase_Chain_L2 d ) n2) x2 = some r := h
    generalize iter (chase_Chain_L2 d ) n2 = self2 at h hn2
    unfold chase_Chain_L2 at h
    refine run_seq ?_
    refine run_seq ?_
    refine run_reg hm hT hC (chase_Chain_g5 (chase_Chain_K d) x2) h ?_
    intro y5 h
    refine cn_then ?_
    refine run_cond (v := y5.2.2.1) (by kernel_rfl) h ?_ ?_
    ·
      intro h
      refine run_skip ?_
      refine cn_then ?_
      refine run_block ?_
      refine run_seq ?_
      refine run_reg hm hT hC (chase_Chain_g6 (chase_Chain_K d) y5) h ?_
      intro y6 h
      refine cn_then ?_
      refine run_seq ?_
      refine run_seq ?_
      refine run_reg hm hT hC (chase_Chain_g7 (chase_Chain_K d) y6) h ?_
      intro y7 h
      refine cn_then ?_
      refine run_cond (v := y7.2.2.1) (by kernel_rfl) h ?_ ?_
      ·
        intro h
        refine run_exit ?_
        refine cn_then_exit ?_
        refine cn_blk_ne (by rfl) ?_
        refine cn_then_exit ?_
        refine cn_blk_eq ?_
        refine cn_num (s := ⟨[(1, .int .i64 y7.1), (3, .int .i64 y7.2.1), (4, .ptr 0 0), (6, .ptr 1 0), (11, .rs 2)], [.cells [.fz Riii y7.2.2.2.1], .cells [.int .i64 y7.2.2.2.2.1, .int .i64 y7.2.2.2.2.2.1], .rows Riiii y7.2.2.2.2.2.2.1]⟩) [12, 34] (by kernel_rfl) ?_
        exact hj1 _ h
      ·
        intro h
        refine run_skip ?_
        refine cn_then ?_
        refine run_seq ?_
        refine run_reg hm hT hC (chase_Chain_g8 (chase_Chain_K d) y7) h ?_
        intro y8 h
        refine cn_then ?_
        refine run_reg hm hT hC (chase_Chain_g9 (chase_Chain_K d) y8) h ?_
        intro y9 h
        refine cn_blk ?_
        exact hn2 _ h
    ·
      intro h
      refine run_exit ?_
      refine cn_then_exit ?_
      refine cn_then_exit ?_
      refine cn_blk_eq ?_
      refine cn_num (s := ⟨[(1, .int .i64 y5.1), (3, .int .i64 y5.2.1), (4, .ptr 0 0), (6, .ptr 1 0), (11, .rs 2)], [.cells [.fz Riii y5.2.2.2.1], .cells [.int .i64 y5.2.2.2.2.1, .int .i64 y5.2.2.2.2.2.1], .rows Riiii y5.2.2.2.2.2.2]⟩) [25] (by kernel_rfl) ?_
      exact hj1 _ h
abbrev chase_Catch_ps : List Pk := [.row RLiiiE true, .row Ri false, .row Ri false, .row Rii true]
abbrev chase_Catch_X : Type := DLiiiE × Di × Di × Dii × Unit
abbrev chase_Catch_R : Type := Int × Int × Int
def chase_Catch_enc (r : chase_Catch_R) : LV × List Ob := (.tup [.agg [.int .i64 r.1, .int .i64 r.2.1], .int .i64 r.2.2], [])
def chase_Catch_sp (F : chase_Catch_X → Option chase_Catch_R) : Go.Tx.Spec := ⟨36, chase_Catch_ps, chase_Catch_R, F, chase_Catch_enc⟩
abbrev chase_Catch_C : Type := (course_Meet_X → Option course_Meet_R) × (field_Rank_X → Option field_Rank_R) × (field_Find_X → Option field_Find_R) × (ratio_Cmp_X → Option ratio_Cmp_R) × Unit
def chase_Catch_K (d : Nat) : chase_Catch_C := (F_course_Meet d, F_field_Rank d, F_field_Find d, F_ratio_Cmp d, ())
def chase_Catch_tab (C : chase_Catch_C) : List Go.Tx.Spec := [course_Meet_sp C.1, field_Rank_sp C.2.1, field_Find_sp C.2.2.1, ratio_Cmp_sp C.2.2.2.1]
abbrev chase_Catch_Y0i : Type := List Diii × Int × Int × Int × Int
def chase_Catch_S0i (v : chase_Catch_Y0i) : St := ⟨[(0, .agg [.fz Riii v.1]), (1, .int .i64 v.2.1), (2, .int .i64 v.2.2.1), (3, .agg [.int .i64 v.2.2.2.1, .int .i64 v.2.2.2.2])], []⟩
abbrev chase_Catch_Y0 : Type := Int × Int × List Diii × Int × Int × Int × Int
def chase_Catch_S0 (v : chase_Catch_Y0) : St := ⟨[(1, .int .i64 v.1), (2, .int .i64 v.2.1), (4, .ptr 0 0), (7, .ptr 1 0), (8, .ptr 2 0)], [.cells [.fz Riii v.2.2.1], .cells [.int .i64 v.2.2.2.1, .int .i64 v.2.2.2.2.1], .cells [.int .i64 v.2.2.2.2.2.1, .int .i64 v.2.2.2.2.2.2]]⟩
def chase_Catch_r0 (C : chase_Catch_C) (v : chase_Catch_Y0i) : Dt chase_Catch_Y0 := (Dt.ret (v.2.1, v.2.2.1, v.1, v.2.2.2.1, v.2.2.2.2, (0:Int), (0:Int)))
theorem chase_Catch_g0 (C : chase_Catch_C) (v : chase_Catch_Y0i) : treg tysT (orc (chase_Catch_tab C)) 83 (regO (bodyOf f36) 0) false [(1, .any), (2, .any), (4, (.box [.val Riii])), (7, .any), (8, .any)] (chase_Catch_S0i v) some = (chase_Catch_r0 C v).eval fun y => some (chase_Catch_S0 y) := by kernel_rfl
abbrev chase_Catch_Y1 : Type := Int × Int × Int × List Diii × Int × Int × Int × Int
def chase_Catch_S1 (v : chase_Catch_Y1) : St := ⟨[(1, .int .i64 v.1), (2, .int .i64 v.2.1), (4, .ptr 0 0), (7, .ptr 1 0), (8, .ptr 2 0), (11, .int .i64 v.2.2.1)], [.cells [.fz Riii v.2.2.2.1], .cells [.int .i64 v.2.2.2.2.1, .int .i64 v.2.2.2.2.2.1], .cells [.int .i64 v.2.2.2.2.2.2.1, .int .i64 v.2.2.2.2.2.2.2]]⟩
def chase_Catch_r1 (C : chase_Catch_C) (v : chase_Catch_Y0) : Dt chase_Catch_Y1 := (Dt.bnd (C.2.1 ((v.2.2.1, ()), (v.1, ()), (v.2.2.2.1, v.2.2.2.2.1, ()), ())) fun r1 => (Dt.ret (v.1, v.2.1, r1.2, v.2.2.1, v.2.2.2.1, v.2.2.2.2.1, v.2.2.2.2.2.1, v.2.2.2.2.2.2)))
theorem chase_Catch_g1 (C : chase_Catch_C) (v : chase_Catch_Y0) : treg tysT (orc (chase_Catch_tab C)) 83 (regO (bodyOf f36) 1) false [(1, .any), (2, .any), (4, (.box [.val Riii])), (7, .any), (8, .any), (11, .any)] (chase_Catch_S0 v) some = (chase_Catch_r1 C v).eval fun y => some (chase_Catch_S1 y) := by kernel_rfl
abbrev chase_Catch_Y2 : Type := Int × Int × Int × Bool × List Diii × Int × Int × Int × Int
def chase_Catch_S2 (v : chase_Catch_Y2) : St := ⟨[(1, .int .i64 v.1), (2, .int .i64 v.2.1), (4, .ptr 0 0), (7, .ptr 1 0), (8, .ptr 2 0), (11, .int .i64 v.2.2.1), (26, .bool v.2.2.2.1)], [.cells [.fz Riii v.2.2.2.2.1], .cells [.int .i64 v.2.2.2.2.2.1, .int .i64 v.2.2.2.2.2.2.1], .cells [.int .i64 v.2.2.2.2.2.2.2.1, .int .i64 v.2.2.2.2.2.2.2.2]]⟩
def chase_Catch_r2 (C : chase_Catch_C) (v : chase_Catch_Y1) : Dt chase_Catch_Y2 := (Dt.ite (v.2.2.1 != (0:Int)) (Dt.ret (v.1, v.2.1, v.2.2.1, (v.2.2.1 != (6:Int)), v.2.2.2.1, v.2.2.2.2.1, v.2.2.2.2.2.1, v.2.2.2.2.2.2.1, v.2.2.2.2.2.2.2)) (Dt.ret (v.1, v.2.1, v.2.2.1, false, v.2.2.2.1, v.2.2.2.2.1, v.2.2.2.2.2.1, v.2.2.2.2.2.2.1, v.2.2.2.2.2.2.2)))
theorem chase_Catch_g2 (C : chase_Catch_C) (v : chase_Catch_Y1) : treg tysT (orc (chase_Catch_tab C)) 83 (regO (bodyOf f36) 2) false [(1, .any), (2, .any), (4, (.box [.val Riii])), (7, .any), (8, .any), (11, .any), (26, .any)] (chase_Catch_S1 v) some = (chase_Catch_r2 C v).eval fun y => some (chase_Catch_S2 y) := by kernel_rfl
abbrev chase_Catch_Y3 : Type := Int × Int × Int
def chase_Catch_S3 (v : chase_Catch_Y3) : St := ⟨[(8, .ptr 0 0), (9, .int .i64 v.1)], [.cells [.int .i64 v.2.1, .int .i64 v.2.2]]⟩
def chase_Catch_r3 (C : chase_Catch_C) (v : chase_Catch_Y2) : Dt chase_Catch_Y3 := (Dt.ret (v.2.2.1, (0:Int), (0:Int)))
theorem chase_Catch_g3 (C : chase_Catch_C) (v : chase_Catch_Y2) : treg tysT (orc (chase_Catch_tab C)) 83 (regO (bodyOf f36) 3) false [(8, .any), (9, .any)] (chase_Catch_S2 v) some = (chase_Catch_r3 C v).eval fun y => some (chase_Catch_S3 y) := by kernel_rfl
abbrev chase_Catch_Y4 : Type := Int × Int × Int × Bool × List Diii × Int × Int × Int × Int
def chase_Catch_S4 (v : chase_Catch_Y4) : St := ⟨[(1, .int .i64 v.1), (2, .int .i64 v.2.1), (4, .ptr 0 0), (7, .ptr 1 0), (8, .ptr 2 0), (11, .int .i64 v.2.2.1), (35, .bool v.2.2.2.1)], [.cells [.fz Riii v.2.2.2.2.1], .cells [.int .i64 v.2.2.2.2.2.1, .int .i64 v.2.2.2.2.2.2.1], .cells [.int .i64 v.2.2.2.2.2.2.2.1, .int .i64 v.2.2.2.2.2.2.2.2]]⟩
def chase_Catch_r4 (C : chase_Catch_C) (v : chase_Catch_Y2) : Dt chase_Catch_Y4 := (Dt.ret (v.1, v.2.1, v.2.2.1, (v.1 == v.2.1), v.2.2.2.2.1, v.2.2.2.2.2.1, v.2.2.2.2.2.2.1, v.2.2.2.2.2.2.2.1, v.2.2.2.2.2.2.2.2))
theorem chase_Catch_g4 (C : chase_Catch_C) (v : chase_Catch_Y2) : treg tysT (orc (chase_Catch_tab C)) 83 (regO (bodyOf f36) 4) false [(1, .any), (2, .any), (4, (.box [.val Riii])), (7, .any), (8, .any), (11, .any), (35, .any)] (chase_Catch_S2 v) some = (chase_Catch_r4 C v).eval fun y => some (chase_Catch_S4 y) := by kernel_rfl
def chase_Catch_r5 (C : chase_Catch_C) (v : chase_Catch_Y4) : Dt chase_Catch_Y3 := (Dt.ret ((2:Int), (0:Int), (0:Int)))
theorem chase_Catch_g5 (C : chase_Catch_C) (v : chase_Catch_Y4) : treg tysT (orc (chase_Catch_tab C)) 83 (regO (bodyOf f36) 5) false [(8, .any), (9, .any)] (chase_Catch_S4 v) some = (chase_Catch_r5 C v).eval fun y => some (chase_Catch_S3 y) := by kernel_rfl
abbrev chase_Catch_Y6 : Type := Int × Int × Int × Bool × List Diii × Int × Int × Int × Int
def chase_Catch_S6 (v : chase_Catch_Y6) : St := ⟨[(1, .int .i64 v.1), (2, .int .i64 v.2.1), (4, .ptr 0 0), (7, .ptr 1 0), (8, .ptr 2 0), (11, .int .i64 v.2.2.1), (40, .bool v.2.2.2.1)], [.cells [.fz Riii v.2.2.2.2.1], .cells [.int .i64 v.2.2.2.2.2.1, .int .i64 v.2.2.2.2.2.2.1], .cells [.int .i64 v.2.2.2.2.2.2.2.1, .int .i64 v.2.2.2.2.2.2.2.2]]⟩
def chase_Catch_r6 (C : chase_Catch_C) (v : chase_Catch_Y4) : Dt chase_Catch_Y6 := (Dt.ret (v.1, v.2.1, v.2.2.1, (v.2.2.1 != (0:Int)), v.2.2.2.2.1, v.2.2.2.2.2.1, v.2.2.2.2.2.2.1, v.2.2.2.2.2.2.2.1, v.2.2.2.2.2.2.2.2))
theorem chase_Catch_g6 (C : chase_Catch_C) (v : chase_Catch_Y4) : treg tysT (orc (chase_Catch_tab C)) 83 (regO (bodyOf f36) 6) false [(1, .any), (2, .any), (4, (.box [.val Riii])), (7, .any), (8, .any), (11, .any), (40, .any)] (chase_Catch_S4 v) some = (chase_Catch_r6 C v).eval fun y => some (chase_Catch_S6 y) := by kernel_rfl
def chase_Catch_r7 (C : chase_Catch_C) (v : chase_Catch_Y6) : Dt chase_Catch_Y3 := (Dt.ret (v.2.2.1, (0:Int), (0:Int)))
theorem chase_Catch_g7 (C : chase_Catch_C) (v : chase_Catch_Y6) : treg tysT (orc (chase_Catch_tab C)) 83 (regO (bodyOf f36) 7) false [(8, .any), (9, .any)] (chase_Catch_S6 v) some = (chase_Catch_r7 C v).eval fun y => some (chase_Catch_S3 y) := by kernel_rfl
abbrev chase_Catch_Y8 : Type := Int × Int × List Diii × Int × Int × Int × Int × Int × Int × Int
def chase_Catch_S8 (v : chase_Catch_Y8) : St := ⟨[(1, .int .i64 v.1), (4, .ptr 0 0), (7, .ptr 1 0), (8, .ptr 2 0), (11, .int .i64 v.2.1), (12, .ptr 3 0)], [.cells [.fz Riii v.2.2.1], .cells [.int .i64 v.2.2.2.1, .int .i64 v.2.2.2.2.1], .cells [.int .i64 v.2.2.2.2.2.1, .int .i64 v.2.2.2.2.2.2.1], .cells [.int .i64 v.2.2.2.2.2.2.2.1, .int .i64 v.2.2.2.2.2.2.2.2.1, .int .i64 v.2.2.2.2.2.2.2.2.2]]⟩
def chase_Catch_r8 (C : chase_Catch_C) (v : chase_Catch_Y6) : Dt chase_Catch_Y8 := (Dt.bnd (C.2.2.1 ((v.2.2.2.2.1, ()), (v.2.1, ()), ())) fun r1 => (Dt.ret (v.1, r1.2.2.2, v.2.2.2.2.1, v.2.2.2.2.2.1, v.2.2.2.2.2.2.1, v.2.2.2.2.2.2.2.1, v.2.2.2.2.2.2.2.2, r1.1, r1.2.1, r1.2.2.1)))
theorem chase_Catch_g8 (C : chase_Catch_C) (v : chase_Catch_Y6) : treg tysT (orc (chase_Catch_tab C)) 83 (regO (bodyOf f36) 8) false [(1, .any), (4, (.box [.val Riii])), (7, .any), (8, .any), (11, .any), (12, .any)] (chase_Catch_S6 v) some = (chase_Catch_r8 C v).eval fun y => some (chase_Catch_S8 y) := by kernel_rfl
abbrev chase_Catch_Y9 : Type := Int × Int × Bool × List Diii × Int × Int × Int × Int × Int × Int × Int
def chase_Catch_S9 (v : chase_Catch_Y9) : St := ⟨[(1, .int .i64 v.1), (4, .ptr 0 0), (7, .ptr 1 0), (8, .ptr 2 0), (11, .int .i64 v.2.1), (12, .ptr 3 0), (52, .bool v.2.2.1)], [.cells [.fz Riii v.2.2.2.1], .cells [.int .i64 v.2.2.2.2.1, .int .i64 v.2.2.2.2.2.1], .cells [.int .i64 v.2.2.2.2.2.2.1, .int .i64 v.2.2.2.2.2.2.2.1], .cells [.int .i64 v.2.2.2.2.2.2.2.2.1, .int .i64 v.2.2.2.2.2.2.2.2.2.1, .int .i64 v.2.2.2.2.2.2.2.2.2.2]]⟩
def chase_Catch_r9 (C : chase_Catch_C) (v : chase_Catch_Y8) : Dt chase_Catch_Y9 := (Dt.ret (v.1, v.2.1, (v.2.1 != (0:Int)), v.2.2.1, v.2.2.2.1, v.2.2.2.2.1, v.2.2.2.2.2.1, v.2.2.2.2.2.2.1, v.2.2.2.2.2.2.2.1, v.2.2.2.2.2.2.2.2.1, v.2.2.2.2.2.2.2.2.2))
theorem chase_Catch_g9 (C : chase_Catch_C) (v : chase_Catch_Y8) : treg tysT (orc (chase_Catch_tab C)) 83 (regO (bodyOf f36) 9) false [(1, .any), (4, (.box [.val Riii])), (7, .any), (8, .any), (11, .any), (12, .any), (52, .any)] (chase_Catch_S8 v) some = (chase_Catch_r9 C v).eval fun y => some (chase_Catch_S9 y) := by kernel_rfl
def chase_Catch_r10 (C : chase_Catch_C) (v : chase_Catch_Y9) : Dt chase_Catch_Y3 := (Dt.ret (v.2.1, (0:Int), (0:Int)))
theorem chase_Catch_g10 (C : chase_Catch_C) (v : chase_Catch_Y9) : treg tysT (orc (chase_Catch_tab C)) 83 (regO (bodyOf f36) 10) false [(8, .any), (9, .any)] (chase_Catch_S9 v) some = (chase_Catch_r10 C v).eval fun y => some (chase_Catch_S3 y) := by kernel_rfl
abbrev chase_Catch_Y11 : Type := Int × Int × Int × Int × Int × Int × Int × Int × Int × Int
def chase_Catch_S11 (v : chase_Catch_Y11) : St := ⟨[(7, .ptr 0 0), (8, .ptr 1 0), (12, .ptr 2 0), (13, .ptr 3 0)], [.cells [.int .i64 v.1, .int .i64 v.2.1], .cells [.int .i64 v.2.2.1, .int .i64 v.2.2.2.1], .cells [.int .i64 v.2.2.2.2.1, .int .i64 v.2.2.2.2.2.1, .int .i64 v.2.2.2.2.2.2.1], .cells [.int .i64 v.2.2.2.2.2.2.2.1, .int .i64 v.2.2.2.2.2.2.2.2.1, .int .i64 v.2.2.2.2.2.2.2.2.2]]⟩
def chase_Catch_r11 (C : chase_Catch_C) (v : chase_Catch_Y9) : Dt chase_Catch_Y11 := (Dt.bnd (C.2.2.1 ((v.2.2.2.1, ()), (v.1, ()), ())) fun r1 => (Dt.ret (v.2.2.2.2.1, v.2.2.2.2.2.1, v.2.2.2.2.2.2.1, v.2.2.2.2.2.2.2.1, v.2.2.2.2.2.2.2.2.1, v.2.2.2.2.2.2.2.2.2.1, v.2.2.2.2.2.2.2.2.2.2, r1.1, r1.2.1, r1.2.2.1)))
theorem chase_Catch_g11 (C : chase_Catch_C) (v : chase_Catch_Y9) : treg tysT (orc (chase_Catch_tab C)) 83 (regO (bodyOf f36) 11) false [(7, .any), (8, .any), (12, .any), (13, .any)] (chase_Catch_S9 v) some = (chase_Catch_r11 C v).eval fun y => some (chase_Catch_S11 y) := by kernel_rfl
abbrev chase_Catch_Y12 : Type := Bool × Int × Int × Int × Int × Int × Int × Int × Int × Int × Int
def chase_Catch_S12 (v : chase_Catch_Y12) : St := ⟨[(7, .ptr 0 0), (8, .ptr 1 0), (12, .ptr 2 0), (13, .ptr 3 0), (65, .bool v.1)], [.cells [.int .i64 v.2.1, .int .i64 v.2.2.1], .cells [.int .i64 v.2.2.2.1, .int .i64 v.2.2.2.2.1], .cells [.int .i64 v.2.2.2.2.2.1, .int .i64 v.2.2.2.2.2.2.1, .int .i64 v.2.2.2.2.2.2.2.1], .cells [.int .i64 v.2.2.2.2.2.2.2.2.1, .int .i64 v.2.2.2.2.2.2.2.2.2.1, .int .i64 v.2.2.2.2.2.2.2.2.2.2]]⟩
def chase_Catch_r12 (C : chase_Catch_C) (v : chase_Catch_Y11) : Dt chase_Catch_Y12 := (Dt.ret ((decide (v.2.2.2.2.2.2.2.2.2 ≤ v.2.2.2.2.2.2.1)), v.1, v.2.1, v.2.2.1, v.2.2.2.1, v.2.2.2.2.1, v.2.2.2.2.2.1, v.2.2.2.2.2.2.1, v.2.2.2.2.2.2.2.1, v.2.2.2.2.2.2.2.2.1, v.2.2.2.2.2.2.2.2.2))
theorem chase_Catch_g12 (C : chase_Catch_C) (v : chase_Catch_Y11) : treg tysT (orc (chase_Catch_tab C)) 83 (regO (bodyOf f36) 12) false [(7, .any), (8, .any), (12, .any), (13, .any), (65, .any)] (chase_Catch_S11 v) some = (chase_Catch_r12 C v).eval fun y => some (chase_Catch_S12 y) := by kernel_rfl
def chase_Catch_r13 (C : chase_Catch_C) (v : chase_Catch_Y12) : Dt chase_Catch_Y3 := (Dt.ret ((6:Int), (0:Int), (0:Int)))
theorem chase_Catch_g13 (C : chase_Catch_C) (v : chase_Catch_Y12) : treg tysT (orc (chase_Catch_tab C)) 83 (regO (bodyOf f36) 13) false [(8, .any), (9, .any)] (chase_Catch_S12 v) some = (chase_Catch_r13 C v).eval fun y => some (chase_Catch_S3 y) := by kernel_rfl
abbrev chase_Catch_Y14 : Type := Int × Int × Int × Int × Int × Int
def chase_Catch_S14 (v : chase_Catch_Y14) : St := ⟨[(7, .ptr 0 0), (8, .ptr 1 0), (15, .ptr 2 0)], [.cells [.int .i64 v.1, .int .i64 v.2.1], .cells [.int .i64 v.2.2.1, .int .i64 v.2.2.2.1], .cells [.int .i64 v.2.2.2.2.1, .int .i64 v.2.2.2.2.2]]⟩
def chase_Catch_r14 (C : chase_Catch_C) (v : chase_Catch_Y12) : Dt chase_Catch_Y14 := (Dt.bnd (C.1 ((v.2.2.2.2.2.2.2.2.1, v.2.2.2.2.2.2.2.2.2.1, v.2.2.2.2.2.2.2.2.2.2, ()), (v.2.2.2.2.2.1, v.2.2.2.2.2.2.1, v.2.2.2.2.2.2.2.1, ()), ())) fun r1 => (Dt.ret (v.2.1, v.2.2.1, v.2.2.2.1, v.2.2.2.2.1, r1.1, r1.2.1)))
theorem chase_Catch_g14 (C : chase_Catch_C) (v : chase_Catch_Y12) : treg tysT (orc (chase_Catch_tab C)) 83 (regO (bodyOf f36) 14) false [(7, .any), (8, .any), (15, .any)] (chase_Catch_S12 v) some = (chase_Catch_r14 C v).eval fun y => some (chase_Catch_S14 y) := by kernel_rfl
abbrev chase_Catch_Y15 : Type := Int × Int × Int × Int × Int
def chase_Catch_S15 (v : chase_Catch_Y15) : St := ⟨[(8, .ptr 0 0), (15, .ptr 1 0), (17, .int .i64 v.1)], [.cells [.int .i64 v.2.1, .int .i64 v.2.2.1], .cells [.int .i64 v.2.2.2.1, .int .i64 v.2.2.2.2]]⟩
def chase_Catch_r15 (C : chase_Catch_C) (v : chase_Catch_Y14) : Dt chase_Catch_Y15 := (Dt.bnd (C.2.2.2.1 ((v.2.2.2.2.1, v.2.2.2.2.2, ()), (v.1, v.2.1, ()), ())) fun r1 => (Dt.ret (r1.1, v.2.2.1, v.2.2.2.1, v.2.2.2.2.1, v.2.2.2.2.2)))
theorem chase_Catch_g15 (C : chase_Catch_C) (v : chase_Catch_Y14) : treg tysT (orc (chase_Catch_tab C)) 83 (regO (bodyOf f36) 15) false [(8, .any), (15, .any), (17, .any)] (chase_Catch_S14 v) some = (chase_Catch_r15 C v).eval fun y => some (chase_Catch_S15 y) := by kernel_rfl
abbrev chase_Catch_Y16 : Type := Bool × Int × Int × Int × Int
def chase_Catch_S16 (v : chase_Catch_Y16) : St := ⟨[(8, .ptr 0 0), (15, .ptr 1 0), (80, .bool v.1)], [.cells [.int .i64 v.2.1, .int .i64 v.2.2.1], .cells [.int .i64 v.2.2.2.1, .int .i64 v.2.2.2.2]]⟩
def chase_Catch_r16 (C : chase_Catch_C) (v : chase_Catch_Y15) : Dt chase_Catch_Y16 := (Dt.ret ((decide (v.1 ≤ (0:Int))), v.2.1, v.2.2.1, v.2.2.2.1, v.2.2.2.2))
theorem chase_Catch_g16 (C : chase_Catch_C) (v : chase_Catch_Y15) : treg tysT (orc (chase_Catch_tab C)) 83 (regO (bodyOf f36) 16) false [(8, .any), (15, .any), (80, .any)] (chase_Catch_S15 v) some = (chase_Catch_r16 C v).eval fun y => some (chase_Catch_S16 y) := by kernel_rfl
def chase_Catch_r17 (C : chase_Catch_C) (v : chase_Catch_Y16) : Dt chase_Catch_Y3 := (Dt.ret ((6:Int), (0:Int), (0:Int)))
theorem chase_Catch_g17 (C : chase_Catch_C) (v : chase_Catch_Y16) : treg tysT (orc (chase_Catch_tab C)) 83 (regO (bodyOf f36) 17) false [(8, .any), (9, .any)] (chase_Catch_S16 v) some = (chase_Catch_r17 C v).eval fun y => some (chase_Catch_S3 y) := by kernel_rfl
def chase_Catch_r18 (C : chase_Catch_C) (v : chase_Catch_Y16) : Dt chase_Catch_Y3 := (Dt.ret ((0:Int), v.2.2.2.1, v.2.2.2.2))
theorem chase_Catch_g18 (C : chase_Catch_C) (v : chase_Catch_Y16) : treg tysT (orc (chase_Catch_tab C)) 83 (regO (bodyOf f36) 18) false [(8, .any), (9, .any)] (chase_Catch_S16 v) some = (chase_Catch_r18 C v).eval fun y => some (chase_Catch_S3 y) := by kernel_rfl
def F_chase_Catch (d : Nat) (x : chase_Catch_X) : Option chase_Catch_R :=
  (chase_Catch_r0 (chase_Catch_K d) (x.1.1, x.2.1.1, x.2.2.1.1, x.2.2.2.1.1, x.2.2.2.1.2.1)).eval fun y0 =>
  (chase_Catch_r1 (chase_Catch_K d) y0).eval fun y1 =>
  (chase_Catch_r2 (chase_Catch_K d) y1).eval fun y2 =>
  bif y2.2.2.2.1 then ((chase_Catch_r3 (chase_Catch_K d) y2).eval fun y3 =>
  some (y3.2.1, y3.2.2, y3.1)) else ((chase_Catch_r4 (chase_Catch_K d) y2).eval fun y4 =>
  bif y4.2.2.2.1 then ((chase_Catch_r5 (chase_Catch_K d) y4).eval fun y5 =>
  some (y5.2.1, y5.2.2, y5.1)) else ((chase_Catch_r6 (chase_Catch_K d) y4).eval fun y6 =>
  bif y6.2.2.2.1 then ((chase_Catch_r7 (chase_Catch_K d) y6).eval fun y7 =>
  some (y7.2.1, y7.2.2, y7.1)) else ((chase_Catch_r8 (chase_Catch_K d) y6).eval fun y8 =>
  (chase_Catch_r9 (chase_Catch_K d) y8).eval fun y9 =>
  bif y9.2.2.1 then ((chase_Catch_r10 (chase_Catch_K d) y9).eval fun y10 =>
  some (y10.2.1, y10.2.2, y10.1)) else ((chase_Catch_r11 (chase_Catch_K d) y9).eval fun y11 =>
  (chase_Catch_r12 (chase_Catch_K d) y11).eval fun y12 =>
  bif y12.1 then ((chase_Catch_r13 (chase_Catch_K d) y12).eval fun y13 =>
  some (y13.2.1, y13.2.2, y13.1)) else ((chase_Catch_r14 (chase_Catch_K d) y12).eval fun y14 =>
  (chase_Catch_r15 (chase_Catch_K d) y14).eval fun y15 =>
  (chase_Catch_r16 (chase_Catch_K d) y15).eval fun y16 =>
  bif y16.1 then ((chase_Catch_r17 (chase_Catch_K d) y16).eval fun y17 =>
  some (y17.2.1, y17.2.2, y17.1)) else ((chase_Catch_r18 (chase_Catch_K d) y16).eval fun y18 =>
  some (y18.2.1, y18.2.2, y18.1)))))))
theorem chase_Catch_cok (d : Nat) : COK prog (chase_Catch_sp (F_chase_Catch d)) := by
  have hm : prog.follows .mixedOrders = true := mixed
  have hT := tys
  have hC0 : OrcOK prog (orc (chase_Catch_tab (chase_Catch_K d))) := orc_ok (by
    intro S hS
    simp only [chase_Catch_tab, List.mem_cons, List.not_mem_nil, or_false] at hS
    rcases hS with rfl | rfl | rfl | rfl
    · exact course_Meet_cok d
    · exact field_Rank_cok d
    · exact field_Find_cok d
    · exact ratio_Cmp_cok d)
  have hC : OrcOK prog (orc (chase_Catch_tab (chase_Catch_K d))) := hC0
  refine cok_of (c := bodyOf f36) (fn := f36) hT (by kernel_rfl) (by kernel_rfl) (by decide) fun x r h w0 φ0 Q hend => ?_
  replace h : F_chase_Catch d x = some r := h
  unfold F_chase_Catch at h
  show Run prog w0 φ0 83 (bodyOf f36) ⟨[(0, .agg [.fz Riii x.1.1]), (1, .int .i64 x.2.1.1), (2, .int .i64 x.2.2.1.1), (3, .agg [.int .i64 x.2.2.2.1.1, .int .i64 x.2.2.2.1.2.1])], []⟩ Q
  refine run_seq ?_
  refine run_reg hm hT hC (chase_Catch_g0 (chase_Catch_K d) (x.1.1, x.2.1.1, x.2.2.1.1, x.2.2.2.1.1, x.2.2.2.1.2.1)) h ?_
  intro y0 h
  refine cn_then ?_
  refine run_seq ?_
  refine run_reg hm hT hC (chase_Catch_g1 (chase_Catch_K d) y0) h ?_
  intro y1 h
  refine cn_then ?_
  refine run_seq ?_
  refine run_block ?_
  refine run_seq ?_
  refine run_reg hm hT hC (chase_Catch_g2 (chase_Catch_K d) y1) h ?_
  intro y2 h
  refine cn_then ?_
  refine run_cond (v := y2.2.2.2.1) (by kernel_rfl) h ?_ ?_
  ·
    intro h
    refine run_seq ?_
    refine run_reg hm hT hC (chase_Catch_g3 (chase_Catch_K d) y2) h ?_
    intro y3 h
    refine cn_then ?_
    refine run_ret ?_
    refine cn_blk_ret ?_
    refine cn_then_ret ?_
    cases h
    exact (hend _ (by kernel_rfl)).2
  ·
    intro h
    refine run_seq ?_
    refine run_reg hm hT hC (chase_Catch_g4 (chase_Catch_K d) y2) h ?_
    intro y4 h
    refine cn_then ?_
    refine run_cond (v := y4.2.2.2.1) (by kernel_rfl) h ?_ ?_
    ·
      intro h
      refine run_seq ?_
      refine run_reg hm hT hC (chase_Catch_g5 (chase_Catch_K d) y4) h ?_
      intro y5 h
      refine cn_then ?_
      refine run_ret ?_
      refine cn_blk_ret ?_
      refine cn_then_ret ?_
      cases h
      exact (hend _ (by kernel_rfl)).2
    ·
      intro h
      refine run_seq ?_
      refine run_reg hm hT hC (chase_Catch_g6 (chase_Catch_K d) y4) h ?_
      intro y6 h
      refine cn_then ?_
      refine run_cond (v := y6.2.2.2.1) (by kernel_rfl) h ?_ ?_
      ·
        intro h
        refine run_seq ?_
        refine run_reg hm hT hC (chase_Catch_g7 (chase_Catch_K d) y6) h ?_
        intro y7 h
        refine cn_then ?_
        refine run_ret ?_
        refine cn_blk_ret ?_
        refine cn_then_ret ?_
        cases h
        exact (hend _ (by kernel_rfl)).2
      ·
        intro h
        refine run_skip ?_
        refine cn_blk ?_
        refine cn_then ?_
        refine run_seq ?_
        refine run_reg hm hT hC (chase_Catch_g8 (chase_Catch_K d) y6) h ?_
        intro y8 h
        refine cn_then ?_
        refine run_seq ?_
        refine run_seq ?_
        refine run_reg hm hT hC (chase_Catch_g9 (chase_Catch_K d) y8) h ?_
        intro y9 h
        refine cn_then ?_
        refine run_cond (v := y9.2.2.1) (by kernel_rfl) h ?_ ?_
        ·
          intro h
          refine run_seq ?_
          refine run_reg hm hT hC (chase_Catch_g10 (chase_Catch_K d) y9) h ?_
          intro y10 h
          refine cn_then ?_
          refine run_ret ?_
          refine cn_then_ret ?_
          cases h
          exact (hend _ (by kernel_rfl)).2
        ·
          intro h
          refine run_skip ?_
          refine cn_then ?_
          refine run_seq ?_
          refine run_reg hm hT hC (chase_Catch_g11 (chase_Catch_K d) y9) h ?_
          intro y11 h
          refine cn_then ?_
          refine run_seq ?_
          refine run_seq ?_
          refine run_reg hm hT hC (chase_Catch_g12 (chase_Catch_K d) y11) h ?_
          intro y12 h
          refine cn_then ?_
          refine run_cond (v := y12.1) (by kernel_rfl) h ?_ ?_
          ·
            intro h
            refine run_seq ?_
            refine run_reg hm hT hC (chase_Catch_g13 (chase_Catch_K d) y12) h ?_
            intro y13 h
            refine cn_then ?_
            refine run_ret ?_
            refine cn_then_ret ?_
            cases h
            exact (hend _ (by kernel_rfl)).2
          ·
            intro h
            refine run_skip ?_
            refine cn_then ?_
            refine run_seq ?_
            refine run_reg hm hT hC (chase_Catch_g14 (chase_Catch_K d) y12) h ?_
            intro y14 h
            refine cn_then ?_
            refine run_seq ?_
            refine run_seq ?_
            refine run_reg hm hT hC (chase_Catch_g15 (chase_Catch_K d) y14) h ?_
            intro y15 h
            refine cn_then ?_
            refine run_seq ?_
            refine run_reg hm hT hC (chase_Catch_g16 (chase_Catch_K d) y15) h ?_
            intro y16 h
            refine cn_then ?_
            refine run_cond (v := y16.1) (by kernel_rfl) h ?_ ?_
            ·
              intro h
              refine run_seq ?_
              refine run_reg hm hT hC (chase_Catch_g17 (chase_Catch_K d) y16) h ?_
              intro y17 h
              refine cn_then ?_
              refine run_ret ?_
              refine cn_then_ret ?_
              cases h
              exact (hend _ (by kernel_rfl)).2
            ·
              intro h
              refine run_skip ?_
              refine cn_then ?_
              refine run_seq ?_
              refine run_reg hm hT hC (chase_Catch_g18 (chase_Catch_K d) y16) h ?_
              intro y18 h
              refine cn_then ?_
              refine run_ret ?_
              cases h
              exact (hend _ (by kernel_rfl)).2
abbrev chase_Caught_ps : List Pk := [.row RLiiiE true, .row Ri false, .row Rii true, .row Rii true]
abbrev chase_Caught_X : Type := DLiiiE × Di × Dii × Dii × Unit
abbrev chase_Caught_R : Type := List Di × List Di × Int
def chase_Caught_enc (r : chase_Caught_R) : LV × List Ob := (.tup [.rs 0, .rs 1, .int .i64 r.2.2], [.rows Ri r.1, .rows Ri r.2.1])
def chase_Caught_sp (F : chase_Caught_X → Option chase_Caught_R) : Go.Tx.Spec := ⟨38, chase_Caught_ps, chase_Caught_R, F, chase_Caught_enc⟩
abbrev chase_Caught_C : Type := (field_Check_X → Option field_Check_R) × (field_Find_X → Option field_Find_R) × (chase_behind_X → Option chase_behind_R) × (chase_other_X → Option chase_other_R) × (ratio_Cmp_X → Option ratio_Cmp_R) × Unit
def chase_Caught_K (d : Nat) : chase_Caught_C := (F_field_Check d, F_field_Find d, F_chase_behind d, F_chase_other d, F_ratio_Cmp d, ())
def chase_Caught_tab (C : chase_Caught_C) : List Go.Tx.Spec := [field_Check_sp C.1, field_Find_sp C.2.1, chase_behind_sp C.2.2.1, chase_other_sp C.2.2.2.1, ratio_Cmp_sp C.2.2.2.2.1]
abbrev chase_Caught_Y0i : Type := List Diii × Int × Int × Int × Int × Int
def chase_Caught_S0i (v : chase_Caught_Y0i) : St := ⟨[(0, .agg [.fz Riii v.1]), (1, .int .i64 v.2.1), (2, .agg [.int .i64 v.2.2.1, .int .i64 v.2.2.2.1]), (3, .agg [.int .i64 v.2.2.2.2.1, .int .i64 v.2.2.2.2.2])], []⟩
abbrev chase_Caught_Y0 : Type := Int × List Diii × Int × Int × Int × Int × List Di × List Di
def chase_Caught_S0 (v : chase_Caught_Y0) : St := ⟨[(1, .int .i64 v.1), (4, .ptr 0 0), (6, .ptr 1 0), (7, .ptr 2 0), (8, .rs 3), (9, .rs 4)], [.cells [.fz Riii v.2.1], .cells [.int .i64 v.2.2.1, .int .i64 v.2.2.2.1], .cells [.int .i64 v.2.2.2.2.1, .int .i64 v.2.2.2.2.2.1], .rows Ri v.2.2.2.2.2.2.1, .rows Ri v.2.2.2.2.2.2.2]⟩
def chase_Caught_r0 (C : chase_Caught_C) (v : chase_Caught_Y0i) : Dt chase_Caught_Y0 := (Dt.ret (v.2.1, v.1, v.2.2.1, v.2.2.2.1, v.2.2.2.2.1, v.2.2.2.2.2, ([] : List Di), ([] : List Di)))
theorem chase_Caught_g0 (C : chase_Caught_C) (v : chase_Caught_Y0i) : treg tysT (orc (chase_Caught_tab C)) 89 (regO (bodyOf f38) 0) false [(1, .any), (4, (.box [.val Riii])), (6, .any), (7, .any), (8, (.own Ri)), (9, (.own Ri))] (chase_Caught_S0i v) some = (chase_Caught_r0 C v).eval fun y => some (chase_Caught_S0 y) := by kernel_rfl
abbrev chase_Caught_Y1 : Type := Int × Int × List Diii × Int × Int × Int × Int × List Di × List Di
def chase_Caught_S1 (v : chase_Caught_Y1) : St := ⟨[(1, .int .i64 v.1), (4, .ptr 0 0), (6, .ptr 1 0), (7, .ptr 2 0), (8, .rs 3), (9, .rs 4), (11, .int .i64 v.2.1)], [.cells [.fz Riii v.2.2.1], .cells [.int .i64 v.2.2.2.1, .int .i64 v.2.2.2.2.1], .cells [.int .i64 v.2.2.2.2.2.1, .int .i64 v.2.2.2.2.2.2.1], .rows Ri v.2.2.2.2.2.2.2.1, .rows Ri v.2.2.2.2.2.2.2.2]⟩
def chase_Caught_r1 (C : chase_Caught_C) (v : chase_Caught_Y0) : Dt chase_Caught_Y1 := (Dt.bnd (C.1 ((v.2.1, ()), ())) fun r1 => (Dt.ret (v.1, r1, v.2.1, v.2.2.1, v.2.2.2.1, v.2.2.2.2.1, v.2.2.2.2.2.1, v.2.2.2.2.2.2.1, v.2.2.2.2.2.2.2)))
theorem chase_Caught_g1 (C : chase_Caught_C) (v : chase_Caught_Y0) : treg tysT (orc (chase_Caught_tab C)) 89 (regO (bodyOf f38) 1) false [(1, .any), (4, (.box [.val Riii])), (6, .any), (7, .any), (8, (.own Ri)), (9, (.own Ri)), (11, .any)] (chase_Caught_S0 v) some = (chase_Caught_r1 C v).eval fun y => some (chase_Caught_S1 y) := by kernel_rfl
abbrev chase_Caught_Y2 : Type := Int × Int × Bool × List Diii × Int × Int × Int × Int × List Di × List Di
def chase_Caught_S2 (v : chase_Caught_Y2) : St := ⟨[(1, .int .i64 v.1), (4, .ptr 0 0), (6, .ptr 1 0), (7, .ptr 2 0), (8, .rs 3), (9, .rs 4), (11, .int .i64 v.2.1), (24, .bool v.2.2.1)], [.cells [.fz Riii v.2.2.2.1], .cells [.int .i64 v.2.2.2.2.1, .int .i64 v.2.2.2.2.2.1], .cells [.int .i64 v.2.2.2.2.2.2.1, .int .i64 v.2.2.2.2.2.2.2.1], .rows Ri v.2.2.2.2.2.2.2.2.1, .rows Ri v.2.2.2.2.2.2.2.2.2]⟩
def chase_Caught_r2 (C : chase_Caught_C) (v : chase_Caught_Y1) : Dt chase_Caught_Y2 := (Dt.ret (v.1, v.2.1, (v.2.1 != (0:Int)), v.2.2.1, v.2.2.2.1, v.2.2.2.2.1, v.2.2.2.2.2.1, v.2.2.2.2.2.2.1, v.2.2.2.2.2.2.2.1, v.2.2.2.2.2.2.2.2))
theorem chase_Caught_g2 (C : chase_Caught_C) (v : chase_Caught_Y1) : treg tysT (orc (chase_Caught_tab C)) 89 (regO (bodyOf f38) 2) false [(1, .any), (4, (.box [.val Riii])), (6, .any), (7, .any), (8, (.own Ri)), (9, (.own Ri)), (11, .any), (24, .any)] (chase_Caught_S1 v) some = (chase_Caught_r2 C v).eval fun y => some (chase_Caught_S2 y) := by kernel_rfl
abbrev chase_Caught_Y3 : Type := Int × List Di × List Di
def chase_Caught_S3 (v : chase_Caught_Y3) : St := ⟨[(8, .rs 0), (9, .rs 1), (10, .int .i64 v.1)], [.rows Ri v.2.1, .rows Ri v.2.2]⟩
def chase_Caught_r3 (C : chase_Caught_C) (v : chase_Caught_Y2) : Dt chase_Caught_Y3 := (Dt.ret (v.2.1, ([] : List Di), ([] : List Di)))
theorem chase_Caught_g3 (C : chase_Caught_C) (v : chase_Caught_Y2) : treg tysT (orc (chase_Caught_tab C)) 89 (regO (bodyOf f38) 3) false [(8, (.own Ri)), (9, (.own Ri)), (10, .any)] (chase_Caught_S2 v) some = (chase_Caught_r3 C v).eval fun y => some (chase_Caught_S3 y) := by kernel_rfl
abbrev chase_Caught_Y4 : Type := Int × Int × Int × List Diii × Int × Int × Int × Int × List Di × List Di
def chase_Caught_S4 (v : chase_Caught_Y4) : St := ⟨[(1, .int .i64 v.1), (4, .ptr 0 0), (6, .ptr 1 0), (7, .ptr 2 0), (8, .rs 3), (9, .rs 4), (10, .int .i64 v.2.1), (12, .int .i64 v.2.2.1)], [.cells [.fz Riii v.2.2.2.1], .cells [.int .i64 v.2.2.2.2.1, .int .i64 v.2.2.2.2.2.1], .cells [.int .i64 v.2.2.2.2.2.2.1, .int .i64 v.2.2.2.2.2.2.2.1], .rows Ri v.2.2.2.2.2.2.2.2.1, .rows Ri v.2.2.2.2.2.2.2.2.2]⟩
def chase_Caught_r4 (C : chase_Caught_C) (v : chase_Caught_Y2) : Dt chase_Caught_Y4 := (Dt.bnd (C.2.2.2.2.1 ((v.2.2.2.2.1, v.2.2.2.2.2.1, ()), (v.2.2.2.2.2.2.1, v.2.2.2.2.2.2.2.1, ()), ())) fun r1 => (Dt.ret (v.1, r1.2, r1.1, v.2.2.2.1, v.2.2.2.2.1, v.2.2.2.2.2.1, v.2.2.2.2.2.2.1, v.2.2.2.2.2.2.2.1, v.2.2.2.2.2.2.2.2.1, v.2.2.2.2.2.2.2.2.2)))
theorem chase_Caught_g4 (C : chase_Caught_C) (v : chase_Caught_Y2) : treg tysT (orc (chase_Caught_tab C)) 89 (regO (bodyOf f38) 4) false [(1, .any), (4, (.box [.val Riii])), (6, .any), (7, .any), (8, (.own Ri)), (9, (.own Ri)), (10, .any), (12, .any)] (chase_Caught_S2 v) some = (chase_Caught_r4 C v).eval fun y => some (chase_Caught_S4 y) := by kernel_rfl
abbrev chase_Caught_Y5 : Type := Int × Int × Int × Bool × List Diii × Int × Int × Int × Int × List Di × List Di
def chase_Caught_S5 (v : chase_Caught_Y5) : St := ⟨[(1, .int .i64 v.1), (4, .ptr 0 0), (6, .ptr 1 0), (7, .ptr 2 0), (8, .rs 3), (9, .rs 4), (10, .int .i64 v.2.1), (12, .int .i64 v.2.2.1), (33, .bool v.2.2.2.1)], [.cells [.fz Riii v.2.2.2.2.1], .cells [.int .i64 v.2.2.2.2.2.1, .int .i64 v.2.2.2.2.2.2.1], .cells [.int .i64 v.2.2.2.2.2.2.2.1, .int .i64 v.2.2.2.2.2.2.2.2.1], .rows Ri v.2.2.2.2.2.2.2.2.2.1, .rows Ri v.2.2.2.2.2.2.2.2.2.2]⟩
def chase_Caught_r5 (C : chase_Caught_C) (v : chase_Caught_Y4) : Dt chase_Caught_Y5 := (Dt.ret (v.1, v.2.1, v.2.2.1, (v.2.1 != (0:Int)), v.2.2.2.1, v.2.2.2.2.1, v.2.2.2.2.2.1, v.2.2.2.2.2.2.1, v.2.2.2.2.2.2.2.1, v.2.2.2.2.2.2.2.2.1, v.2.2.2.2.2.2.2.2.2))
theorem chase_Caught_g5 (C : chase_Caught_C) (v : chase_Caught_Y4) : treg tysT (orc (chase_Caught_tab C)) 89 (regO (bodyOf f38) 5) false [(1, .any), (4, (.box [.val Riii])), (6, .any), (7, .any), (8, (.own Ri)), (9, (.own Ri)), (10, .any), (12, .any), (33, .any)] (chase_Caught_S4 v) some = (chase_Caught_r5 C v).eval fun y => some (chase_Caught_S5 y) := by kernel_rfl
def chase_Caught_r6 (C : chase_Caught_C) (v : chase_Caught_Y5) : Dt chase_Caught_Y3 := (Dt.ret (v.2.1, ([] : List Di), ([] : List Di)))
theorem chase_Caught_g6 (C : chase_Caught_C) (v : chase_Caught_Y5) : treg tysT (orc (chase_Caught_tab C)) 89 (regO (bodyOf f38) 6) false [(8, (.own Ri)), (9, (.own Ri)), (10, .any)] (chase_Caught_S5 v) some = (chase_Caught_r6 C v).eval fun y => some (chase_Caught_S3 y) := by kernel_rfl
abbrev chase_Caught_Y7 : Type := Int × Bool × List Diii × Int × Int × Int × Int × List Di × List Di
def chase_Caught_S7 (v : chase_Caught_Y7) : St := ⟨[(1, .int .i64 v.1), (4, .ptr 0 0), (6, .ptr 1 0), (7, .ptr 2 0), (8, .rs 3), (9, .rs 4), (36, .bool v.2.1)], [.cells [.fz Riii v.2.2.1], .cells [.int .i64 v.2.2.2.1, .int .i64 v.2.2.2.2.1], .cells [.int .i64 v.2.2.2.2.2.1, .int .i64 v.2.2.2.2.2.2.1], .rows Ri v.2.2.2.2.2.2.2.1, .rows Ri v.2.2.2.2.2.2.2.2]⟩
def chase_Caught_r7 (C : chase_Caught_C) (v : chase_Caught_Y5) : Dt chase_Caught_Y7 := (Dt.ret (v.1, (decide (v.2.2.1 > (0:Int))), v.2.2.2.2.1, v.2.2.2.2.2.1, v.2.2.2.2.2.2.1, v.2.2.2.2.2.2.2.1, v.2.2.2.2.2.2.2.2.1, v.2.2.2.2.2.2.2.2.2.1, v.2.2.2.2.2.2.2.2.2.2))
theorem chase_Caught_g7 (C : chase_Caught_C) (v : chase_Caught_Y5) : treg tysT (orc (chase_Caught_tab C)) 89 (regO (bodyOf f38) 7) false [(1, .any), (4, (.box [.val Riii])), (6, .any), (7, .any), (8, (.own Ri)), (9, (.own Ri)), (36, .any)] (chase_Caught_S5 v) some = (chase_Caught_r7 C v).eval fun y => some (chase_Caught_S7 y) := by kernel_rfl
def chase_Caught_r8 (C : chase_Caught_C) (v : chase_Caught_Y7) : Dt chase_Caught_Y3 := (Dt.ret ((2:Int), ([] : List Di), ([] : List Di)))
theorem chase_Caught_g8 (C : chase_Caught_C) (v : chase_Caught_Y7) : treg tysT (orc (chase_Caught_tab C)) 89 (regO (bodyOf f38) 8) false [(8, (.own Ri)), (9, (.own Ri)), (10, .any)] (chase_Caught_S7 v) some = (chase_Caught_r8 C v).eval fun y => some (chase_Caught_S3 y) := by kernel_rfl
abbrev chase_Caught_Y9 : Type := Int × Int × List Diii × Int × Int × Int × Int × List Di × List Di × Int × Int × Int
def chase_Caught_S9 (v : chase_Caught_Y9) : St := ⟨[(1, .int .i64 v.1), (4, .ptr 0 0), (6, .ptr 1 0), (7, .ptr 2 0), (8, .rs 3), (9, .rs 4), (10, .int .i64 v.2.1), (13, .ptr 5 0)], [.cells [.fz Riii v.2.2.1], .cells [.int .i64 v.2.2.2.1, .int .i64 v.2.2.2.2.1], .cells [.int .i64 v.2.2.2.2.2.1, .int .i64 v.2.2.2.2.2.2.1], .rows Ri v.2.2.2.2.2.2.2.1, .rows Ri v.2.2.2.2.2.2.2.2.1, .cells [.int .i64 v.2.2.2.2.2.2.2.2.2.1, .int .i64 v.2.2.2.2.2.2.2.2.2.2.1, .int .i64 v.2.2.2.2.2.2.2.2.2.2.2]]⟩
def chase_Caught_r9 (C : chase_Caught_C) (v : chase_Caught_Y7) : Dt chase_Caught_Y9 := (Dt.bnd (C.2.1 ((v.2.2.1, ()), (v.1, ()), ())) fun r1 => (Dt.ret (v.1, r1.2.2.2, v.2.2.1, v.2.2.2.1, v.2.2.2.2.1, v.2.2.2.2.2.1, v.2.2.2.2.2.2.1, v.2.2.2.2.2.2.2.1, v.2.2.2.2.2.2.2.2, r1.1, r1.2.1, r1.2.2.1)))
theorem chase_Caught_g9 (C : chase_Caught_C) (v : chase_Caught_Y7) : treg tysT (orc (chase_Caught_tab C)) 89 (regO (bodyOf f38) 9) false [(1, .any), (4, (.box [.val Riii])), (6, .any), (7, .any), (8, (.own Ri)), (9, (.own Ri)), (10, .any), (13, .any)] (chase_Caught_S7 v) some = (chase_Caught_r9 C v).eval fun y => some (chase_Caught_S9 y) := by kernel_rfl
abbrev chase_Caught_Y10 : Type := Int × Int × Bool × List Diii × Int × Int × Int × Int × List Di × List Di × Int × Int × Int
def chase_Caught_S10 (v : chase_Caught_Y10) : St := ⟨[(1, .int .i64 v.1), (4, .ptr 0 0), (6, .ptr 1 0), (7, .ptr 2 0), (8, .rs 3), (9, .rs 4), (10, .int .i64 v.2.1), (13, .ptr 5 0), (44, .bool v.2.2.1)], [.cells [.fz Riii v.2.2.2.1], .cells [.int .i64 v.2.2.2.2.1, .int .i64 v.2.2.2.2.2.1], .cells [.int .i64 v.2.2.2.2.2.2.1, .int .i64 v.2.2.2.2.2.2.2.1], .rows Ri v.2.2.2.2.2.2.2.2.1, .rows Ri v.2.2.2.2.2.2.2.2.2.1, .cells [.int .i64 v.2.2.2.2.2.2.2.2.2.2.1, .int .i64 v.2.2.2.2.2.2.2.2.2.2.2.1, .int .i64 v.2.2.2.2.2.2.2.2.2.2.2.2]]⟩
def chase_Caught_r10 (C : chase_Caught_C) (v : chase_Caught_Y9) : Dt chase_Caught_Y10 := (Dt.ret (v.1, v.2.1, (v.2.1 != (0:Int)), v.2.2.1, v.2.2.2.1, v.2.2.2.2.1, v.2.2.2.2.2.1, v.2.2.2.2.2.2.1, v.2.2.2.2.2.2.2.1, v.2.2.2.2.2.2.2.2.1, v.2.2.2.2.2.2.2.2.2.1, v.2.2.2.2.2.2.2.2.2.2.1, v.2.2.2.2.2.2.2.2.2.2.2))
theorem chase_Caught_g10 (C : chase_Caught_C) (v : chase_Caught_Y9) : treg tysT (orc (chase_Caught_tab C)) 89 (regO (bodyOf f38) 10) false [(1, .any), (4, (.box [.val Riii])), (6, .any), (7, .any), (8, (.own Ri)), (9, (.own Ri)), (10, .any), (13, .any), (44, .any)] (chase_Caught_S9 v) some = (chase_Caught_r10 C v).eval fun y => some (chase_Caught_S10 y) := by kernel_rfl
def chase_Caught_r11 (C : chase_Caught_C) (v : chase_Caught_Y10) : Dt chase_Caught_Y3 := (Dt.ret (v.2.1, ([] : List Di), ([] : List Di)))
theorem chase_Caught_g11 (C : chase_Caught_C) (v : chase_Caught_Y10) : treg tysT (orc (chase_Caught_tab C)) 89 (regO (bodyOf f38) 11) false [(8, (.own Ri)), (9, (.own Ri)), (10, .any)] (chase_Caught_S10 v) some = (chase_Caught_r11 C v).eval fun y => some (chase_Caught_S3 y) := by kernel_rfl
abbrev chase_Caught_Y12 : Type := Int × Int × Int × List Diii × Int × Int × List Di × List Di × Int × Int × Int × List Diiii
def chase_Caught_S12 (v : chase_Caught_Y12) : St := ⟨[(1, .int .i64 v.1), (4, .ptr 0 0), (7, .ptr 1 0), (8, .rs 2), (9, .rs 3), (13, .ptr 4 0), (49, .rs 5), (50, .int .i64 v.2.1), (51, .int .i64 v.2.2.1)], [.cells [.fz Riii v.2.2.2.1], .cells [.int .i64 v.2.2.2.2.1, .int .i64 v.2.2.2.2.2.1], .rows Ri v.2.2.2.2.2.2.1, .rows Ri v.2.2.2.2.2.2.2.1, .cells [.int .i64 v.2.2.2.2.2.2.2.2.1, .int .i64 v.2.2.2.2.2.2.2.2.2.1, .int .i64 v.2.2.2.2.2.2.2.2.2.2.1], .rows Riiii v.2.2.2.2.2.2.2.2.2.2.2]⟩
def chase_Caught_r12 (C : chase_Caught_C) (v : chase_Caught_Y10) : Dt chase_Caught_Y12 := (Dt.bnd (C.2.2.1 ((v.2.2.2.1, ()), (v.1, ()), (v.2.2.2.2.1, v.2.2.2.2.2.1, ()), ())) fun r1 => (Dt.ret (v.1, (List.length r1 : Int), (0:Int), v.2.2.2.1, v.2.2.2.2.2.2.1, v.2.2.2.2.2.2.2.1, v.2.2.2.2.2.2.2.2.1, v.2.2.2.2.2.2.2.2.2.1, v.2.2.2.2.2.2.2.2.2.2.1, v.2.2.2.2.2.2.2.2.2.2.2.1, v.2.2.2.2.2.2.2.2.2.2.2.2, r1)))
theorem chase_Caught_g12 (C : chase_Caught_C) (v : chase_Caught_Y10) : treg tysT (orc (chase_Caught_tab C)) 89 (regO (bodyOf f38) 12) false [(1, .any), (4, (.box [.val Riii])), (7, .any), (8, (.own Ri)), (9, (.own Ri)), (13, .any), (49, (.own Riiii)), (50, .any), (51, .any)] (chase_Caught_S10 v) some = (chase_Caught_r12 C v).eval fun y => some (chase_Caught_S12 y) := by kernel_rfl
abbrev chase_Caught_Y13 : Type := Int × Int × Int × Bool × List Diii × Int × Int × List Di × List Di × Int × Int × Int × List Diiii
def chase_Caught_S13 (v : chase_Caught_Y13) : St := ⟨[(1, .int .i64 v.1), (4, .ptr 0 0), (7, .ptr 1 0), (8, .rs 2), (9, .rs 3), (13, .ptr 4 0), (49, .rs 5), (50, .int .i64 v.2.1), (51, .int .i64 v.2.2.1), (52, .bool v.2.2.2.1)], [.cells [.fz Riii v.2.2.2.2.1], .cells [.int .i64 v.2.2.2.2.2.1, .int .i64 v.2.2.2.2.2.2.1], .rows Ri v.2.2.2.2.2.2.2.1, .rows Ri v.2.2.2.2.2.2.2.2.1, .cells [.int .i64 v.2.2.2.2.2.2.2.2.2.1, .int .i64 v.2.2.2.2.2.2.2.2.2.2.1, .int .i64 v.2.2.2.2.2.2.2.2.2.2.2.1], .rows Riiii v.2.2.2.2.2.2.2.2.2.2.2.2]⟩
def chase_Caught_r13 (C : chase_Caught_C) (v : chase_Caught_Y12) : Dt chase_Caught_Y13 := (Dt.ret (v.1, v.2.1, v.2.2.1, (decide (v.2.2.1 < v.2.1)), v.2.2.2.1, v.2.2.2.2.1, v.2.2.2.2.2.1, v.2.2.2.2.2.2.1, v.2.2.2.2.2.2.2.1, v.2.2.2.2.2.2.2.2.1, v.2.2.2.2.2.2.2.2.2.1, v.2.2.2.2.2.2.2.2.2.2.1, v.2.2.2.2.2.2.2.2.2.2.2))
theorem chase_Caught_g13 (C : chase_Caught_C) (v : chase_Caught_Y12) : treg tysT (orc (chase_Caught_tab C)) 89 (regO (bodyOf f38) 13) false [(1, .any), (4, (.box [.val Riii])), (7, .any), (8, (.own Ri)), (9, (.own Ri)), (13, .any), (49, (.own Riiii)), (50, .any), (51, .any), (52, .any)] (chase_Caught_S12 v) some = (chase_Caught_r13 C v).eval fun y => some (chase_Caught_S13 y) := by kernel_rfl
abbrev chase_Caught_Y14 : Type := Int × Int × Int × List Diii × Int × Int × List Di × List Di × Int × Int × Int × Int × Int × Int × Int × List Diiii
def chase_Caught_S14 (v : chase_Caught_Y14) : St := ⟨[(1, .int .i64 v.1), (4, .ptr 0 0), (7, .ptr 1 0), (8, .rs 2), (9, .rs 3), (13, .ptr 4 0), (15, .ptr 5 0), (49, .rs 6), (50, .int .i64 v.2.1), (51, .int .i64 v.2.2.1)], [.cells [.fz Riii v.2.2.2.1], .cells [.int .i64 v.2.2.2.2.1, .int .i64 v.2.2.2.2.2.1], .rows Ri v.2.2.2.2.2.2.1, .rows Ri v.2.2.2.2.2.2.2.1, .cells [.int .i64 v.2.2.2.2.2.2.2.2.1, .int .i64 v.2.2.2.2.2.2.2.2.2.1, .int .i64 v.2.2.2.2.2.2.2.2.2.2.1], .cells [.int .i64 v.2.2.2.2.2.2.2.2.2.2.2.1, .int .i64 v.2.2.2.2.2.2.2.2.2.2.2.2.1, .int .i64 v.2.2.2.2.2.2.2.2.2.2.2.2.2.1, .int .i64 v.2.2.2.2.2.2.2.2.2.2.2.2.2.2.1], .rows Riiii v.2.2.2.2.2.2.2.2.2.2.2.2.2.2.2]⟩
def chase_Caught_r14 (C : chase_Caught_C) (v : chase_Caught_Y13) : Dt chase_Caught_Y14 := (Dt.ite (inB v.2.2.1 (List.length v.2.2.2.2.2.2.2.2.2.2.2.2)) (Dt.ret (v.1, v.2.1, v.2.2.1, v.2.2.2.2.1, v.2.2.2.2.2.1, v.2.2.2.2.2.2.1, v.2.2.2.2.2.2.2.1, v.2.2.2.2.2.2.2.2.1, v.2.2.2.2.2.2.2.2.2.1, v.2.2.2.2.2.2.2.2.2.2.1, v.2.2.2.2.2.2.2.2.2.2.2.1, (elt ziiii v.2.2.2.2.2.2.2.2.2.2.2.2 (v.2.2.1).toNat).1, (elt ziiii v.2.2.2.2.2.2.2.2.2.2.2.2 (v.2.2.1).toNat).2.1, (elt ziiii v.2.2.2.2.2.2.2.2.2.2.2.2 (v.2.2.1).toNat).2.2.1, (elt ziiii v.2.2.2.2.2.2.2.2.2.2.2.2 (v.2.2.1).toNat).2.2.2.1, v.2.2.2.2.2.2.2.2.2.2.2.2)) Dt.fail)
theorem chase_Caught_g14 (C : chase_Caught_C) (v : chase_Caught_Y13) : treg tysT (orc (chase_Caught_tab C)) 89 (regO (bodyOf f38) 14) false [(1, .any), (4, (.box [.val Riii])), (7, .any), (8, (.own Ri)), (9, (.own Ri)), (13, .any), (15, .any), (49, (.own Riiii)), (50, .any), (51, .any)] (chase_Caught_S13 v) some = (chase_Caught_r14 C v).eval fun y => some (chase_Caught_S14 y) := by kernel_rfl
abbrev chase_Caught_Y15 : Type := Int × Int × Int × Int × List Diii × Int × Int × List Di × List Di × Int × Int × Int × Int × Int × Int × Int × List Diiii
def chase_Caught_S15 (v : chase_Caught_Y15) : St := ⟨[(1, .int .i64 v.1), (4, .ptr 0 0), (7, .ptr 1 0), (8, .rs 2), (9, .rs 3), (13, .ptr 4 0), (15, .ptr 5 0), (16, .int .i64 v.2.1), (49, .rs 6), (50, .int .i64 v.2.2.1), (51, .int .i64 v.2.2.2.1)], [.cells [.fz Riii v.2.2.2.2.1], .cells [.int .i64 v.2.2.2.2.2.1, .int .i64 v.2.2.2.2.2.2.1], .rows Ri v.2.2.2.2.2.2.2.1, .rows Ri v.2.2.2.2.2.2.2.2.1, .cells [.int .i64 v.2.2.2.2.2.2.2.2.2.1, .int .i64 v.2.2.2.2.2.2.2.2.2.2.1, .int .i64 v.2.2.2.2.2.2.2.2.2.2.2.1], .cells [.int .i64 v.2.2.2.2.2.2.2.2.2.2.2.2.1, .int .i64 v.2.2.2.2.2.2.2.2.2.2.2.2.2.1, .int .i64 v.2.2.2.2.2.2.2.2.2.2.2.2.2.2.1, .int .i64 v.2.2.2.2.2.2.2.2.2.2.2.2.2.2.2.1], .rows Riiii v.2.2.2.2.2.2.2.2.2.2.2.2.2.2.2.2]⟩
def chase_Caught_r15 (C : chase_Caught_C) (v : chase_Caught_Y14) : Dt chase_Caught_Y15 := (Dt.bnd (C.2.2.2.2.1 ((v.2.2.2.2.2.2.2.2.2.2.2.1, v.2.2.2.2.2.2.2.2.2.2.2.2.1, ()), (v.2.2.2.2.1, v.2.2.2.2.2.1, ()), ())) fun r1 => (Dt.ret (v.1, r1.1, v.2.1, v.2.2.1, v.2.2.2.1, v.2.2.2.2.1, v.2.2.2.2.2.1, v.2.2.2.2.2.2.1, v.2.2.2.2.2.2.2.1, v.2.2.2.2.2.2.2.2.1, v.2.2.2.2.2.2.2.2.2.1, v.2.2.2.2.2.2.2.2.2.2.1, v.2.2.2.2.2.2.2.2.2.2.2.1, v.2.2.2.2.2.2.2.2.2.2.2.2.1, v.2.2.2.2.2.2.2.2.2.2.2.2.2.1, v.2.2.2.2.2.2.2.2.2.2.2.2.2.2.1, v.2.2.2.2.2.2.2.2.2.2.2.2.2.2.2)))
theorem chase_Caught_g15 (C : chase_Caught_C) (v : chase_Caught_Y14) : treg tysT (orc (chase_Caught_tab C)) 89 (regO (bodyOf f38) 15) false [(1, .any), (4, (.box [.val Riii])), (7, .any), (8, (.own Ri)), (9, (.own Ri)), (13, .any), (15, .any), (16, .any), (49, (.own Riiii)), (50, .any), (51, .any)] (chase_Caught_S14 v) some = (chase_Caught_r15 C v).eval fun y => some (chase_Caught_S15 y) := by kernel_rfl
abbrev chase_Caught_Y16 : Type := Int × Int × Int × Bool × List Diii × Int × Int × List Di × List Di × Int × Int × Int × Int × Int × Int × Int × List Diiii
def chase_Caught_S16 (v : chase_Caught_Y16) : St := ⟨[(1, .int .i64 v.1), (4, .ptr 0 0), (7, .ptr 1 0), (8, .rs 2), (9, .rs 3), (13, .ptr 4 0), (15, .ptr 5 0), (49, .rs 6), (50, .int .i64 v.2.1), (51, .int .i64 v.2.2.1), (63, .bool v.2.2.2.1)], [.cells [.fz Riii v.2.2.2.2.1], .cells [.int .i64 v.2.2.2.2.2.1, .int .i64 v.2.2.2.2.2.2.1], .rows Ri v.2.2.2.2.2.2.2.1, .rows Ri v.2.2.2.2.2.2.2.2.1, .cells [.int .i64 v.2.2.2.2.2.2.2.2.2.1, .int .i64 v.2.2.2.2.2.2.2.2.2.2.1, .int .i64 v.2.2.2.2.2.2.2.2.2.2.2.1], .cells [.int .i64 v.2.2.2.2.2.2.2.2.2.2.2.2.1, .int .i64 v.2.2.2.2.2.2.2.2.2.2.2.2.2.1, .int .i64 v.2.2.2.2.2.2.2.2.2.2.2.2.2.2.1, .int .i64 v.2.2.2.2.2.2.2.2.2.2.2.2.2.2.2.1], .rows Riiii v.2.2.2.2.2.2.2.2.2.2.2.2.2.2.2.2]⟩
def chase_Caught_r16 (C : chase_Caught_C) (v : chase_Caught_Y15) : Dt chase_Caught_Y16 := (Dt.ret (v.1, v.2.2.1, v.2.2.2.1, (decide (v.2.1 > (0:Int))), v.2.2.2.2.1, v.2.2.2.2.2.1, v.2.2.2.2.2.2.1, v.2.2.2.2.2.2.2.1, v.2.2.2.2.2.2.2.2.1, v.2.2.2.2.2.2.2.2.2.1, v.2.2.2.2.2.2.2.2.2.2.1, v.2.2.2.2.2.2.2.2.2.2.2.1, v.2.2.2.2.2.2.2.2.2.2.2.2.1, v.2.2.2.2.2.2.2.2.2.2.2.2.2.1, v.2.2.2.2.2.2.2.2.2.2.2.2.2.2.1, v.2.2.2.2.2.2.2.2.2.2.2.2.2.2.2.1, v.2.2.2.2.2.2.2.2.2.2.2.2.2.2.2.2))
theorem chase_Caught_g16 (C : chase_Caught_C) (v : chase_Caught_Y15) : treg tysT (orc (chase_Caught_tab C)) 89 (regO (bodyOf f38) 16) false [(1, .any), (4, (.box [.val Riii])), (7, .any), (8, (.own Ri)), (9, (.own Ri)), (13, .any), (15, .any), (49, (.own Riiii)), (50, .any), (51, .any), (63, .any)] (chase_Caught_S15 v) some = (chase_Caught_r16 C v).eval fun y => some (chase_Caught_S16 y) := by kernel_rfl
def chase_Caught_r23 (C : chase_Caught_C) (v : chase_Caught_Y12) : Dt chase_Caught_Y3 := (Dt.ret ((0:Int), v.2.2.2.2.2.2.1, v.2.2.2.2.2.2.2.1))
theorem chase_Caught_g23 (C : chase_Caught_C) (v : chase_Caught_Y12) : treg tysT (orc (chase_Caught_tab C)) 89 (regO (bodyOf f38) 23) false [(8, (.own Ri)), (9, (.own Ri)), (10, .any)] (chase_Caught_S12 v) some = (chase_Caught_r23 C v).eval fun y => some (chase_Caught_S3 y) := by kernel_rfl
def chase_Caught_J1  (d : Nat)  (z : Int × Int × Int × List Diii × Int × Int × List Di × List Di × Int × Int × Int × List Diiii) : Option (chase_Caught_R) :=
  (chase_Caught_r23 (chase_Caught_K d) z).eval fun y23 =>
  some (y23.2.1, y23.2.2, y23.1)
abbrev chase_Caught_Y17 : Type := Int × Int × Int × Int × List Diii × Int × Int × List Di × List Di × Int × Int × Int × List Diiii
def chase_Caught_S17 (v : chase_Caught_Y17) : St := ⟨[(1, .int .i64 v.1), (4, .ptr 0 0), (7, .ptr 1 0), (8, .rs 2), (9, .rs 3), (13, .ptr 4 0), (18, .int .i64 v.2.1), (49, .rs 5), (50, .int .i64 v.2.2.1), (51, .int .i64 v.2.2.2.1)], [.cells [.fz Riii v.2.2.2.2.1], .cells [.int .i64 v.2.2.2.2.2.1, .int .i64 v.2.2.2.2.2.2.1], .rows Ri v.2.2.2.2.2.2.2.1, .rows Ri v.2.2.2.2.2.2.2.2.1, .cells [.int .i64 v.2.2.2.2.2.2.2.2.2.1, .int .i64 v.2.2.2.2.2.2.2.2.2.2.1, .int .i64 v.2.2.2.2.2.2.2.2.2.2.2.1], .rows Riiii v.2.2.2.2.2.2.2.2.2.2.2.2]⟩
def chase_Caught_r17 (C : chase_Caught_C) (v : chase_Caught_Y16) : Dt chase_Caught_Y17 := (Dt.bnd (C.2.2.2.1 ((v.2.2.2.2.2.2.2.2.2.2.2.2.1, v.2.2.2.2.2.2.2.2.2.2.2.2.2.1, v.2.2.2.2.2.2.2.2.2.2.2.2.2.2.1, v.2.2.2.2.2.2.2.2.2.2.2.2.2.2.2.1, ()), (v.1, ()), ())) fun r1 => (Dt.ret (v.1, r1, v.2.1, v.2.2.1, v.2.2.2.2.1, v.2.2.2.2.2.1, v.2.2.2.2.2.2.1, v.2.2.2.2.2.2.2.1, v.2.2.2.2.2.2.2.2.1, v.2.2.2.2.2.2.2.2.2.1, v.2.2.2.2.2.2.2.2.2.2.1, v.2.2.2.2.2.2.2.2.2.2.2.1, v.2.2.2.2.2.2.2.2.2.2.2.2.2.2.2.2)))
theorem chase_Caught_g17 (C : chase_Caught_C) (v : chase_Caught_Y16) : treg tysT (orc (chase_Caught_tab C)) 89 (regO (bodyOf f38) 17) false [(1, .any), (4, (.box [.val Riii])), (7, .any), (8, (.own Ri)), (9, (.own Ri)), (13, .any), (18, .any), (49, (.own Riiii)), (50, .any), (51, .any)] (chase_Caught_S16 v) some = (chase_Caught_r17 C v).eval fun y => some (chase_Caught_S17 y) := by kernel_rfl
abbrev chase_Caught_Y18 : Type := Int × Int × Int × Int × List Diii × Int × Int × List Di × List Di × Int × Int × Int × Int × Int × Int × List Diiii
def chase_Caught_S18 (v : chase_Caught_Y18) : St := ⟨[(1, .int .i64 v.1), (4, .ptr 0 0), (7, .ptr 1 0), (8, .rs 2), (9, .rs 3), (13, .ptr 4 0), (18, .int .i64 v.2.1), (19, .ptr 5 0), (49, .rs 6), (50, .int .i64 v.2.2.1), (51, .int .i64 v.2.2.2.1)], [.cells [.fz Riii v.2.2.2.2.1], .cells [.int .i64 v.2.2.2.2.2.1, .int .i64 v.2.2.2.2.2.2.1], .rows Ri v.2.2.2.2.2.2.2.1, .rows Ri v.2.2.2.2.2.2.2.2.1, .cells [.int .i64 v.2.2.2.2.2.2.2.2.2.1, .int .i64 v.2.2.2.2.2.2.2.2.2.2.1, .int .i64 v.2.2.2.2.2.2.2.2.2.2.2.1], .cells [.int .i64 v.2.2.2.2.2.2.2.2.2.2.2.2.1, .int .i64 v.2.2.2.2.2.2.2.2.2.2.2.2.2.1, .int .i64 v.2.2.2.2.2.2.2.2.2.2.2.2.2.2.1], .rows Riiii v.2.2.2.2.2.2.2.2.2.2.2.2.2.2.2]⟩
def chase_Caught_r18 (C : chase_Caught_C) (v : chase_Caught_Y17) : Dt chase_Caught_Y18 := (Dt.bnd (C.2.1 ((v.2.2.2.2.1, ()), (v.2.1, ()), ())) fun r1 => (Dt.ret (v.1, v.2.1, v.2.2.1, v.2.2.2.1, v.2.2.2.2.1, v.2.2.2.2.2.1, v.2.2.2.2.2.2.1, v.2.2.2.2.2.2.2.1, v.2.2.2.2.2.2.2.2.1, v.2.2.2.2.2.2.2.2.2.1, v.2.2.2.2.2.2.2.2.2.2.1, v.2.2.2.2.2.2.2.2.2.2.2.1, r1.1, r1.2.1, r1.2.2.1, v.2.2.2.2.2.2.2.2.2.2.2.2)))
theorem chase_Caught_g18 (C : chase_Caught_C) (v : chase_Caught_Y17) : treg tysT (orc (chase_Caught_tab C)) 89 (regO (bodyOf f38) 18) false [(1, .any), (4, (.box [.val Riii])), (7, .any), (8, (.own Ri)), (9, (.own Ri)), (13, .any), (18, .any), (19, .any), (49, (.own Riiii)), (50, .any), (51, .any)] (chase_Caught_S17 v) some = (chase_Caught_r18 C v).eval fun y => some (chase_Caught_S18 y) := by kernel_rfl
abbrev chase_Caught_Y19 : Type := Int × Int × Int × Int × Bool × List Diii × Int × Int × List Di × List Di × Int × Int × Int × List Diiii
def chase_Caught_S19 (v : chase_Caught_Y19) : St := ⟨[(1, .int .i64 v.1), (4, .ptr 0 0), (7, .ptr 1 0), (8, .rs 2), (9, .rs 3), (13, .ptr 4 0), (18, .int .i64 v.2.1), (49, .rs 5), (50, .int .i64 v.2.2.1), (51, .int .i64 v.2.2.2.1), (77, .bool v.2.2.2.2.1)], [.cells [.fz Riii v.2.2.2.2.2.1], .cells [.int .i64 v.2.2.2.2.2.2.1, .int .i64 v.2.2.2.2.2.2.2.1], .rows Ri v.2.2.2.2.2.2.2.2.1, .rows Ri v.2.2.2.2.2.2.2.2.2.1, .cells [.int .i64 v.2.2.2.2.2.2.2.2.2.2.1, .int .i64 v.2.2.2.2.2.2.2.2.2.2.2.1, .int .i64 v.2.2.2.2.2.2.2.2.2.2.2.2.1], .rows Riiii v.2.2.2.2.2.2.2.2.2.2.2.2.2]⟩
def chase_Caught_r19 (C : chase_Caught_C) (v : chase_Caught_Y18) : Dt chase_Caught_Y19 := (Dt.ret (v.1, v.2.1, v.2.2.1, v.2.2.2.1, (decide (v.2.2.2.2.2.2.2.2.2.2.2.1 > v.2.2.2.2.2.2.2.2.2.2.2.2.2.2.1)), v.2.2.2.2.1, v.2.2.2.2.2.1, v.2.2.2.2.2.2.1, v.2.2.2.2.2.2.2.1, v.2.2.2.2.2.2.2.2.1, v.2.2.2.2.2.2.2.2.2.1, v.2.2.2.2.2.2.2.2.2.2.1, v.2.2.2.2.2.2.2.2.2.2.2.1, v.2.2.2.2.2.2.2.2.2.2.2.2.2.2.2))
theorem chase_Caught_g19 (C : chase_Caught_C) (v : chase_Caught_Y18) : treg tysT (orc (chase_Caught_tab C)) 89 (regO (bodyOf f38) 19) false [(1, .any), (4, (.box [.val Riii])), (7, .any), (8, (.own Ri)), (9, (.own Ri)), (13, .any), (18, .any), (49, (.own Riiii)), (50, .any), (51, .any), (77, .any)] (chase_Caught_S18 v) some = (chase_Caught_r19 C v).eval fun y => some (chase_Caught_S19 y) := by kernel_rfl
def chase_Caught_r20 (C : chase_Caught_C) (v : chase_Caught_Y19) : Dt chase_Caught_Y12 := (Dt.ite (apB (List.length v.2.2.2.2.2.2.2.2.1) (List.length ([(v.2.1, ())] : List Di))) (Dt.ret (v.1, v.2.2.1, v.2.2.2.1, v.2.2.2.2.2.1, v.2.2.2.2.2.2.1, v.2.2.2.2.2.2.2.1, (v.2.2.2.2.2.2.2.2.1 ++ ([(v.2.1, ())] : List Di)), v.2.2.2.2.2.2.2.2.2.1, v.2.2.2.2.2.2.2.2.2.2.1, v.2.2.2.2.2.2.2.2.2.2.2.1, v.2.2.2.2.2.2.2.2.2.2.2.2.1, v.2.2.2.2.2.2.2.2.2.2.2.2.2)) Dt.fail)
theorem chase_Caught_g20 (C : chase_Caught_C) (v : chase_Caught_Y19) : treg tysT (orc (chase_Caught_tab C)) 89 (regO (bodyOf f38) 20) false [(1, .any), (4, (.box [.val Riii])), (7, .any), (8, (.own Ri)), (9, (.own Ri)), (13, .any), (49, (.own Riiii)), (50, .any), (51, .any)] (chase_Caught_S19 v) some = (chase_Caught_r20 C v).eval fun y => some (chase_Caught_S12 y) := by kernel_rfl
def chase_Caught_r22 (C : chase_Caught_C) (v : chase_Caught_Y12) : Dt chase_Caught_Y12 := (Dt.ret (v.1, v.2.1, (IntKind.wrap .i64 (v.2.2.1 + (1:Int))), v.2.2.2.1, v.2.2.2.2.1, v.2.2.2.2.2.1, v.2.2.2.2.2.2.1, v.2.2.2.2.2.2.2.1, v.2.2.2.2.2.2.2.2.1, v.2.2.2.2.2.2.2.2.2.1, v.2.2.2.2.2.2.2.2.2.2.1, v.2.2.2.2.2.2.2.2.2.2.2))
theorem chase_Caught_g22 (C : chase_Caught_C) (v : chase_Caught_Y12) : treg tysT (orc (chase_Caught_tab C)) 89 (regO (bodyOf f38) 22) false [(1, .any), (4, (.box [.val Riii])), (7, .any), (8, (.own Ri)), (9, (.own Ri)), (13, .any), (49, (.own Riiii)), (50, .any), (51, .any)] (chase_Caught_S12 v) some = (chase_Caught_r22 C v).eval fun y => some (chase_Caught_S12 y) := by kernel_rfl
def chase_Caught_J3  (d : Nat) (self2 : (Int × Int × Int × List Diii × Int × Int × List Di × List Di × Int × Int × Int × List Diiii) → Option chase_Caught_R) (z : Int × Int × Int × List Diii × Int × Int × List Di × List Di × Int × Int × Int × List Diiii) : Option (chase_Caught_R) :=
  (chase_Caught_r22 (chase_Caught_K d) z).eval fun y22 =>
  self2 y22
def chase_Caught_r21 (C : chase_Caught_C) (v : chase_Caught_Y19) : Dt chase_Caught_Y12 := (Dt.ite (apB (List.length v.2.2.2.2.2.2.2.2.2.1) (List.length ([(v.2.1, ())] : List Di))) (Dt.ret (v.1, v.2.2.1, v.2.2.2.1, v.2.2.2.2.2.1, v.2.2.2.2.2.2.1, v.2.2.2.2.2.2.2.1, v.2.2.2.2.2.2.2.2.1, (v.2.2.2.2.2.2.2.2.2.1 ++ ([(v.2.1, ())] : List Di)), v.2.2.2.2.2.2.2.2.2.2.1, v.2.2.2.2.2.2.2.2.2.2.2.1, v.2.2.2.2.2.2.2.2.2.2.2.2.1, v.2.2.2.2.2.2.2.2.2.2.2.2.2)) Dt.fail)
theorem chase_Caught_g21 (C : chase_Caught_C) (v : chase_Caught_Y19) : treg tysT (orc (chase_Caught_tab C)) 89 (regO (bodyOf f38) 21) false [(1, .any), (4, (.box [.val Riii])), (7, .any), (8, (.own Ri)), (9, (.own Ri)), (13, .any), (49, (.own Riiii)), (50, .any), (51, .any)] (chase_Caught_S19 v) some = (chase_Caught_r21 C v).eval fun y => some (chase_Caught_S12 y) := by kernel_rfl
def chase_Caught_L2 (d : Nat) (self2 : (Int × Int × Int × List Diii × Int × Int × List Di × List Di × Int × Int × Int × List Diiii) → Option chase_Caught_R) (x2 : Int × Int × Int × List Diii × Int × Int × List Di × List Di × Int × Int × Int × List Diiii) : Option chase_Caught_R :=
  (chase_Caught_r13 (chase_Caught_K d) x2).eval fun y13 =>
  bif y13.2.2.2.1 then ((chase_Caught_r14 (chase_Caught_K d) y13).eval fun y14 =>
  (chase_Caught_r15 (chase_Caught_K d) y14).eval fun y15 =>
  (chase_Caught_r16 (chase_Caught_K d) y15).eval fun y16 =>
  bif y16.2.2.2.1 then (chase_Caught_J1 d  (y16.1, y16.2.1, y16.2.2.1, y16.2.2.2.2.1, y16.2.2.2.2.2.1, y16.2.2.2.2.2.2.1, y16.2.2.2.2.2.2.2.1, y16.2.2.2.2.2.2.2.2.1, y16.2.2.2.2.2.2.2.2.2.1, y16.2.2.2.2.2.2.2.2.2.2.1, y16.2.2.2.2.2.2.2.2.2.2.2.1, y16.2.2.2.2.2.2.2.2.2.2.2.2.2.2.2.2)) else ((chase_Caught_r17 (chase_Caught_K d) y16).eval fun y17 =>
  (chase_Caught_r18 (chase_Caught_K d) y17).eval fun y18 =>
  (chase_Caught_r19 (chase_Caught_K d) y18).eval fun y19 =>
  bif y19.2.2.2.2.1 then ((chase_Caught_r20 (chase_Caught_K d) y19).eval fun y20 =>
  chase_Caught_J3 d self2 y20) else ((chase_Caught_r21 (chase_Caught_K d) y19).eval fun y21 =>
  chase_Caught_J3 d self2 y21))) else (chase_Caught_J1 d  (y13.1, y13.2.1, y13.2.2.1, y13.2.2.2.2.1, y13.2.2.2.2.2.1, y13.2.2.2.2.2.2.1, y13.2.2.2.2.2.2.2.1, y13.2.2.2.2.2.2.2.2.1, y13.2.2.2.2.2.2.2.2.2.1, y13.2.2.2.2.2.2.2.2.2.2.1, y13.2.2.2.2.2.2.2.2.2.2.2.1, y13.2.2.2.2.2.2.2.2.2.2.2.2))
def F_chase_Caught (d : Nat) (x : chase_Caught_X) : Option chase_Caught_R :=
  (chase_Caught_r0 (chase_Caught_K d) (x.1.1, x.2.1.1, x.2.2.1.1, x.2.2.1.2.1, x.2.2.2.1.1, x.2.2.2.1.2.1)).eval fun y0 =>
  (chase_Caught_r1 (chase_Caught_K d) y0).eval fun y1 =>
  (chase_Caught_r2 (chase_Caught_K d) y1).eval fun y2 =>
  bif y2.2.2.1 then ((chase_Caught_r3 (chase_Caught_K d) y2).eval fun y3 =>
  some (y3.2.1, y3.2.2, y3.1)) else ((chase_Caught_r4 (chase_Caught_K d) y2).eval fun y4 =>
  (chase_Caught_r5 (chase_Caught_K d) y4).eval fun y5 =>
  bif y5.2.2.2.1 then ((chase_Caught_r6 (chase_Caught_K d) y5).eval fun y6 =>
  some (y6.2.1, y6.2.2, y6.1)) else ((chase_Caught_r7 (chase_Caught_K d) y5).eval fun y7 =>
  bif y7.2.1 then ((chase_Caught_r8 (chase_Caught_K d) y7).eval fun y8 =>
  some (y8.2.1, y8.2.2, y8.1)) else ((chase_Caught_r9 (chase_Caught_K d) y7).eval fun y9 =>
  (chase_Caught_r10 (chase_Caught_K d) y9).eval fun y10 =>
  bif y10.2.2.1 then ((chase_Caught_r11 (chase_Caught_K d) y10).eval fun y11 =>
  some (y11.2.1, y11.2.2, y11.1)) else ((chase_Caught_r12 (chase_Caught_K d) y10).eval fun y12 =>
  iter (chase_Caught_L2 d ) d y12))))
theorem chase_Caught_cok (d : Nat) : COK prog (chase_Caught_sp (F_chase_Caught d)) := by
  have hm : prog.follows .mixedOrders = true := mixed
  have hT := tys
  have hC0 : OrcOK prog (orc (chase_Caught_tab (chase_Caught_K d))) := orc_ok (by
    intro S hS
    simp only [chase_Caught_tab, List.mem_cons, List.not_mem_nil, or_false] at hS
    rcases hS with rfl | rfl | rfl | rfl | rfl
    · exact field_Check_cok d
    · exact field_Find_cok d
    · exact chase_behind_cok d
    · exact chase_other_cok d
    · exact ratio_Cmp_cok d)
  have hC : OrcOK prog (orc (chase_Caught_tab (chase_Caught_K d))) := hC0
  refine cok_of (c := bodyOf f38) (fn := f38) hT (by kernel_rfl) (by kernel_rfl) (by decide) fun x r h w0 φ0 Q hend => ?_
  replace h : F_chase_Caught d x = some r := h
  unfold F_chase_Caught at h
  show Run prog w0 φ0 89 (bodyOf f38) ⟨[(0, .agg [.fz Riii x.1.1]), (1, .int .i64 x.2.1.1), (2, .agg [.int .i64 x.2.2.1.1, .int .i64 x.2.2.1.2.1]), (3, .agg [.int .i64 x.2.2.2.1.1, .int .i64 x.2.2.2.1.2.1])], []⟩ Q
  refine run_seq ?_
  refine run_reg hm hT hC (chase_Caught_g0 (chase_Caught_K d) (x.1.1, x.2.1.1, x.2.2.1.1, x.2.2.1.2.1, x.2.2.2.1.1, x.2.2.2.1.2.1)) h ?_
  intro y0 h
  refine cn_then ?_
  refine run_seq ?_
  refine run_seq ?_
  refine run_reg hm hT hC (chase_Caught_g1 (chase_Caught_K d) y0) h ?_
  intro y1 h
  refine cn_then ?_
  refine run_seq ?_
  refine run_reg hm hT hC (chase_Caught_g2 (chase_Caught_K d) y1) h ?_
  intro y2 h
  refine cn_then ?_
  refine run_cond (v := y2.2.2.1) (by kernel_rfl) h ?_ ?_
  ·
    intro h
    refine run_seq ?_
    refine run_reg hm hT hC (chase_Caught_g3 (chase_Caught_K d) y2) h ?_
    intro y3 h
    refine cn_then ?_
    refine run_ret ?_
    refine cn_then_ret ?_
    cases h
    exact (hend _ (by kernel_rfl)).2
  ·
    intro h
    refine run_skip ?_
    refine cn_then ?_
    refine run_seq ?_
    refine run_reg hm hT hC (chase_Caught_g4 (chase_Caught_K d) y2) h ?_
    intro y4 h
    refine cn_then ?_
    refine run_seq ?_
    refine run_seq ?_
    refine run_reg hm hT hC (chase_Caught_g5 (chase_Caught_K d) y4) h ?_
    intro y5 h
    refine cn_then ?_
    refine run_cond (v := y5.2.2.2.1) (by kernel_rfl) h ?_ ?_
    ·
      intro h
      refine run_seq ?_
      refine run_reg hm hT hC (chase_Caught_g6 (chase_Caught_K d) y5) h ?_
      intro y6 h
      refine cn_then ?_
      refine run_ret ?_
      refine cn_then_ret ?_
      cases h
      exact (hend _ (by kernel_rfl)).2
    ·
      intro h
      refine run_skip ?_
      refine cn_then ?_
      refine run_seq ?_
      refine run_seq ?_
      refine run_reg hm hT hC (chase_Caught_g7 (chase_Caught_K d) y5) h ?_
      intro y7 h
      refine cn_then ?_
      refine run_cond (v := y7.2.1) (by kernel_rfl) h ?_ ?_
      ·
        intro h
        refine run_seq ?_
        refine run_reg hm hT hC (chase_Caught_g8 (chase_Caught_K d) y7) h ?_
        intro y8 h
        refine cn_then ?_
        refine run_ret ?_
        refine cn_then_ret ?_
        cases h
        exact (hend _ (by kernel_rfl)).2
      ·
        intro h
        refine run_skip ?_
        refine cn_then ?_
        refine run_seq ?_
        refine run_reg hm hT hC (chase_Caught_g9 (chase_Caught_K d) y7) h ?_
        intro y9 h
        refine cn_then ?_
        refine run_seq ?_
        refine run_seq ?_
        refine run_reg hm hT hC (chase_Caught_g10 (chase_Caught_K d) y9) h ?_
        intro y10 h
        refine cn_then ?_
        refine run_cond (v := y10.2.2.1) (by kernel_rfl) h ?_ ?_
        ·
          intro h
          refine run_seq ?_
          refine run_reg hm hT hC (chase_Caught_g11 (chase_Caught_K d) y10) h ?_
          intro y11 h
          refine cn_then ?_
          refine run_ret ?_
          refine cn_then_ret ?_
          cases h
          exact (hend _ (by kernel_rfl)).2
        ·
          intro h
          refine run_skip ?_
          refine cn_then ?_
          refine run_join (r := r) (F := chase_Caught_J1 d ) (S := (fun z => ⟨[(1, .int .i64 z.1), (4, .ptr 0 0), (7, .ptr 1 0), (8, .rs 2), (9, .rs 3), (13, .ptr 4 0), (49, .rs 5), (50, .int .i64 z.2.1), (51, .int .i64 z.2.2.1)], [.cells [.fz Riii z.2.2.2.1], .cells [.int .i64 z.2.2.2.2.1, .int .i64 z.2.2.2.2.2.1], .rows Ri z.2.2.2.2.2.2.1, .rows Ri z.2.2.2.2.2.2.2.1, .cells [.int .i64 z.2.2.2.2.2.2.2.2.1, .int .i64 z.2.2.2.2.2.2.2.2.2.1, .int .i64 z.2.2.2.2.2.2.2.2.2.2.1], .rows Riiii z.2.2.2.2.2.2.2.2.2.2.2]⟩ : Int × Int × Int × List Diii × Int × Int × List Di × List Di × Int × Int × Int × List Diiii → St)) ?_ ?_
          ·
            intro z h
            unfold chase_Caught_J1 at h
            refine run_seq ?_
            refine run_reg hm hT hC (chase_Caught_g23 (chase_Caught_K d) z) h ?_
            intro y23 h
            refine cn_then ?_
            refine run_ret ?_
            cases h
            exact (hend _ (by kernel_rfl)).2
          intro hj1
          refine run_seq ?_
          refine run_reg hm hT hC (chase_Caught_g12 (chase_Caught_K d) y10) h ?_
          intro y12 h
          refine cn_then ?_
          refine run_block ?_
          refine run_loop (G := iter (chase_Caught_L2 d )) (S := (fun x2 => ⟨[(1, .int .i64 x2.1), (4, .ptr 0 0), (7, .ptr 1 0), (8, .rs 2), (9, .rs 3), (13, .ptr 4 0), (49, .rs 5), (50, .int .i64 x2.2.1), (51, .int .i64 x2.2.2.1)], [.cells [.fz Riii x2.2.2.2.1], .cells [.int .i64 x2.2.2.2.2.1, .int .i64 x2.2.2.2.2.2.1], .rows Ri x2.2.2.2.2.2.2.1, .rows Ri x2.2.2.2.2.2.2.2.1, .cells [.int .i64 x2.2.2.2.2.2.2.2.2.1, .int .i64 x2.2.2.2.2.2.2.2.2.2.1, .int .i64 x2.2.2.2.2.2.2.2.2.2.2.1], .rows Riiii x2.2.2.2.2.2.2.2.2.2.2.2]⟩ : Int × Int × Int × List Diii × Int × Int × List Di × List Di × Int × Int × Int × List Diiii → St)) (fun _ => rfl) ?_ d _ h
          intro n2 x2 h K2 hn2
          replace h : chase_Caught_L2 d  (iter (chase_Caught_L2 d ) n2) x2 = some r := h
          generalize iter (chase_Caught_L2 d ) n2 = self2 at h hn2
          unfold chase_Caught_L2 at h
          refine run_seq ?_
          refine run_reg hm hT hC (chase_Caught_g13 (chase_Caught_K d) x2) h ?_
          intro y13 h
          refine cn_then ?_
          refine run_seq ?_
          refine run_cond (v := y13.2.2.2.1) (by kernel_rfl) h ?_ ?_
          ·
            intro h
            refine run_skip ?_
            refine cn_then ?_
            refine run_join (r := r) (F := chase_Caught_J3 d self2) (S := (fun z => ⟨[(1, .int .i64 z.1), (4, .ptr 0 0), (7, .ptr 1 0), (8, .rs 2), (9, .rs 3), (13, .ptr 4 0), (49, .rs 5), (50, .int .i64 z.2.1), (51, .int .i64 z.2.2.1)], [.cells [.fz Riii z.2.2.2.1], .cells [.int .i64 z.2.2.2.2.1, .int .i64 z.2.2.2.2.2.1], .rows Ri z.2.2.2.2.2.2.1, .rows Ri z.2.2.2.2.2.2.2.1, .cells [.int .i64 z.2.2.2.2.2.2.2.2.1, .int .i64 z.2.2.2.2.2.2.2.2.2.1, .int .i64 z.2.2.2.2.2.2.2.2.2.2.1], .rows Riiii z.2.2.2.2.2.2.2.2.2.2.2]⟩ : Int × Int × Int × List Diii × Int × Int × List Di × List Di × Int × Int × Int × List Diiii → St)) ?_ ?_
            ·
              intro z h
              unfold chase_Caught_J3 at h
              refine run_reg hm hT hC (chase_Caught_g22 (chase_Caught_K d) z) h ?_
              intro y22 h
              exact hn2 _ h
            intro hj3
            refine run_block ?_
            refine run_seq ?_
            refine run_reg hm hT hC (chase_Caught_g14 (chase_Caught_K d) y13) h ?_
            intro y14 h
            refine cn_then ?_
            refine run_seq ?_
            refine run_seq ?_
            refine run_reg hm hT hC (chase_Caught_g15 (chase_Caught_K d) y14) h ?_
            intro y15 h
            refine cn_then ?_
            refine run_seq ?_
            refine run_reg hm hT hC (chase_Caught_g16 (chase_Caught_K d) y15) h ?_
            intro y16 h
            refine cn_then ?_
            refine run_cond (v := y16.2.2.2.1) (by kernel_rfl) h ?_ ?_
            ·
              intro h
              refine run_exit ?_
              refine cn_then_exit ?_
              refine cn_blk_ne (by rfl) ?_
              refine cn_then_exit ?_
              refine cn_then_exit ?_
              refine cn_blk_eq ?_
              refine cn_num (s := ⟨[(1, .int .i64 y16.1), (4, .ptr 0 0), (7, .ptr 1 0), (8, .rs 2), (9, .rs 3), (13, .ptr 4 0), (49, .rs 5), (50, .int .i64 y16.2.1), (51, .int .i64 y16.2.2.1)], [.cells [.fz Riii y16.2.2.2.2.1], .cells [.int .i64 y16.2.2.2.2.2.1, .int .i64 y16.2.2.2.2.2.2.1], .rows Ri y16.2.2.2.2.2.2.2.1, .rows Ri y16.2.2.2.2.2.2.2.2.1, .cells [.int .i64 y16.2.2.2.2.2.2.2.2.2.1, .int .i64 y16.2.2.2.2.2.2.2.2.2.2.1, .int .i64 y16.2.2.2.2.2.2.2.2.2.2.2.1], .rows Riiii y16.2.2.2.2.2.2.2.2.2.2.2.2.2.2.2.2]⟩) [15, 63] (by kernel_rfl) ?_
              exact hj1 _ h
            ·
              intro h
              refine run_skip ?_
              refine cn_then ?_
              refine run_seq ?_
              refine run_reg hm hT hC (chase_Caught_g17 (chase_Caught_K d) y16) h ?_
              intro y17 h
              refine cn_then ?_
              refine run_seq ?_
              refine run_reg hm hT hC (chase_Caught_g18 (chase_Caught_K d) y17) h ?_
              intro y18 h
              refine cn_then ?_
              refine run_seq ?_
              refine run_reg hm hT hC (chase_Caught_g19 (chase_Caught_K d) y18) h ?_
              intro y19 h
              refine cn_then ?_
              refine run_cond (v := y19.2.2.2.2.1) (by kernel_rfl) h ?_ ?_
              ·
                intro h
                refine run_reg hm hT hC (chase_Caught_g20 (chase_Caught_K d) y19) h ?_
                intro y20 h
                refine cn_blk ?_
                exact hj3 _ h
              ·
                intro h
                refine run_reg hm hT hC (chase_Caught_g21 (chase_Caught_K d) y19) h ?_
                intro y21 h
                refine cn_blk ?_
                exact hj3 _ h
          ·
            intro h
            refine run_exit ?_
            refine cn_then_exit ?_
            refine cn_then_exit ?_
            refine cn_blk_eq ?_
            refine cn_num (s := ⟨[(1, .int .i64 y13.1), (4, .ptr 0 0), (7, .ptr 1 0), (8, .rs 2), (9, .rs 3), (13, .ptr 4 0), (49, .rs 5), (50, .int .i64 y13.2.1), (51, .int .i64 y13.2.2.1)], [.cells [.fz Riii y13.2.2.2.2.1], .cells [.int .i64 y13.2.2.2.2.2.1, .int .i64 y13.2.2.2.2.2.2.1], .rows Ri y13.2.2.2.2.2.2.2.1, .rows Ri y13.2.2.2.2.2.2.2.2.1, .cells [.int .i64 y13.2.2.2.2.2.2.2.2.2.1, .int .i64 y13.2.2.2.2.2.2.2.2.2.2.1, .int .i64 y13.2.2.2.2.2.2.2.2.2.2.2.1], .rows Riiii y13.2.2.2.2.2.2.2.2.2.2.2.2]⟩) [52] (by kernel_rfl) ?_
            exact hj1 _ h
end Go.Proofs.Ytmagihjfbembjaa
