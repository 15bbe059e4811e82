/- Walks of the references; the orders agree; examples. -/
import Derived.Test.YtpojhcjdcbegiaaGreatRows
import Derived.ProofKit
import Derived.OpenShut
import Derived.ShutString
import Derived.ChangeOld
import Derived.Test.YtpojhcjdcbegiaaGreatGe
set_option linter.unusedSimpArgs false
set_option linter.unusedVariables false
namespace Go.Proofs.YtpojhcjdcbegiaaGreat
open Go Go.Tx Go.Proofs.Tryz
set_option maxRecDepth 100000
set_option maxHeartbeats 0
abbrev spread_check_ps : List Pk := [.row RLiiiE true, .row Rii true, .row Rii true]
abbrev spread_check_X : Type := DLiiiE × Dii × Dii × Unit
abbrev spread_check_R : Type := Int
def spread_check_enc (r : spread_check_R) : LV × List Ob := (.int .i64 r, [])
def spread_check_sp (F : spread_check_X → Option spread_check_R) : Go.Tx.Spec := ⟨12, spread_check_ps, spread_check_R, F, spread_check_enc⟩
abbrev spread_check_C : Type := (meet_Count_X → Option meet_Count_R) × Unit
def spread_check_K (d : Nat) : spread_check_C := (F_meet_Count d, ())
def spread_check_tab (C : spread_check_C) : List Go.Tx.Spec := [meet_Count_sp C.1]
abbrev spread_check_Y0i : Type := List Diii × Int × Int × Int × Int
def spread_check_S0i (v : spread_check_Y0i) : St := ⟨[(0, .agg [.fz Riii v.1]), (1, .agg [.int .i64 v.2.1, .int .i64 v.2.2.1]), (2, .agg [.int .i64 v.2.2.2.1, .int .i64 v.2.2.2.2])], []⟩
abbrev spread_check_Y0 : Type := List Diii × Int × Int × Int × Int
def spread_check_S0 (v : spread_check_Y0) : St := ⟨[(3, .ptr 0 0), (4, .ptr 1 0), (5, .ptr 2 0)], [.cells [.fz Riii v.1], .cells [.int .i64 v.2.1, .int .i64 v.2.2.1], .cells [.int .i64 v.2.2.2.1, .int .i64 v.2.2.2.2]]⟩
def spread_check_r0 (C : spread_check_C) (v : spread_check_Y0i) : Dt spread_check_Y0 := (Dt.ret (v.1, v.2.1, v.2.2.1, v.2.2.2.1, v.2.2.2.2))
theorem spread_check_g0 (C : spread_check_C) (v : spread_check_Y0i) : treg tysT (orc (spread_check_tab C)) 23 (regO (bodyOf f12) 0) false [(3, (.box [.val Riii])), (4, .any), (5, .any)] (spread_check_S0i v) some = (spread_check_r0 C v).eval fun y => some (spread_check_S0 y) := by kernel_rfl
abbrev spread_check_Y1 : Type := Int × List Diii
def spread_check_S1 (v : spread_check_Y1) : St := ⟨[(3, .ptr 0 0), (8, .int .i64 v.1)], [.cells [.fz Riii v.2]]⟩
def spread_check_r1 (C : spread_check_C) (v : spread_check_Y0) : Dt spread_check_Y1 := (Dt.bnd (C.1 ((v.1, ()), (v.2.1, v.2.2.1, ()), (v.2.2.2.1, v.2.2.2.2, ()), ())) fun r1 => (Dt.ret (r1.2, v.1)))
theorem spread_check_g1 (C : spread_check_C) (v : spread_check_Y0) : treg tysT (orc (spread_check_tab C)) 23 (regO (bodyOf f12) 1) false [(3, (.box [.val Riii])), (8, .any)] (spread_check_S0 v) some = (spread_check_r1 C v).eval fun y => some (spread_check_S1 y) := by kernel_rfl
abbrev spread_check_Y2 : Type := Int × Bool × List Diii
def spread_check_S2 (v : spread_check_Y2) : St := ⟨[(3, .ptr 0 0), (8, .int .i64 v.1), (17, .bool v.2.1)], [.cells [.fz Riii v.2.2]]⟩
def spread_check_r2 (C : spread_check_C) (v : spread_check_Y1) : Dt spread_check_Y2 := (Dt.ret (v.1, (v.1 != (0:Int)), v.2))
theorem spread_check_g2 (C : spread_check_C) (v : spread_check_Y1) : treg tysT (orc (spread_check_tab C)) 23 (regO (bodyOf f12) 2) false [(3, (.box [.val Riii])), (8, .any), (17, .any)] (spread_check_S1 v) some = (spread_check_r2 C v).eval fun y => some (spread_check_S2 y) := by kernel_rfl
abbrev spread_check_Y3 : Type := Int
def spread_check_S3 (v : spread_check_Y3) : St := ⟨[(6, .int .i64 v)], []⟩
def spread_check_r3 (C : spread_check_C) (v : spread_check_Y2) : Dt spread_check_Y3 := (Dt.ret v.1)
theorem spread_check_g3 (C : spread_check_C) (v : spread_check_Y2) : treg tysT (orc (spread_check_tab C)) 23 (regO (bodyOf f12) 3) false [(6, .any)] (spread_check_S2 v) some = (spread_check_r3 C v).eval fun y => some (spread_check_S3 y) := by kernel_rfl
abbrev spread_check_Y4 : Type := Bool
def spread_check_S4 (v : spread_check_Y4) : St := ⟨[(22, .bool v)], []⟩
def spread_check_r4 (C : spread_check_C) (v : spread_check_Y2) : Dt spread_check_Y4 := (Dt.ret ((List.length v.2.2 : Int) == (0:Int)))
theorem spread_check_g4 (C : spread_check_C) (v : spread_check_Y2) : treg tysT (orc (spread_check_tab C)) 23 (regO (bodyOf f12) 4) false [(22, .any)] (spread_check_S2 v) some = (spread_check_r4 C v).eval fun y => some (spread_check_S4 y) := by kernel_rfl
def spread_check_r5 (C : spread_check_C) (v : spread_check_Y4) : Dt spread_check_Y3 := (Dt.ret (42:Int))
theorem spread_check_g5 (C : spread_check_C) (v : spread_check_Y4) : treg tysT (orc (spread_check_tab C)) 23 (regO (bodyOf f12) 5) false [(6, .any)] (spread_check_S4 v) some = (spread_check_r5 C v).eval fun y => some (spread_check_S3 y) := by kernel_rfl
def spread_check_r6 (C : spread_check_C) (v : spread_check_Y4) : Dt spread_check_Y3 := (Dt.ret (0:Int))
theorem spread_check_g6 (C : spread_check_C) (v : spread_check_Y4) : treg tysT (orc (spread_check_tab C)) 23 (regO (bodyOf f12) 6) false [(6, .any)] (spread_check_S4 v) some = (spread_check_r6 C v).eval fun y => some (spread_check_S3 y) := by kernel_rfl
def F_spread_check (d : Nat) (x : spread_check_X) : Option spread_check_R :=
  (spread_check_r0 (spread_check_K d) (x.1.1, x.2.1.1, x.2.1.2.1, x.2.2.1.1, x.2.2.1.2.1)).eval fun y0 =>
  (spread_check_r1 (spread_check_K d) y0).eval fun y1 =>
  (spread_check_r2 (spread_check_K d) y1).eval fun y2 =>
  bif y2.2.1 then ((spread_check_r3 (spread_check_K d) y2).eval fun y3 =>
  some y3) else ((spread_check_r4 (spread_check_K d) y2).eval fun y4 =>
  bif y4 then ((spread_check_r5 (spread_check_K d) y4).eval fun y5 =>
  some y5) else ((spread_check_r6 (spread_check_K d) y4).eval fun y6 =>
  some y6))
theorem spread_check_cok (d : Nat) : COK prog (spread_check_sp (F_spread_check d)) := by
  have hm : prog.follows .mixedOrders = true := mixed
  have hT := tys
  have hC0 : OrcOK prog (orc (spread_check_tab (spread_check_K d))) := orc_ok (by
    intro S hS
    simp only [spread_check_tab, List.mem_cons, List.not_mem_nil, or_false] at hS
    subst hS; exact meet_Count_cok d)
  have hC : OrcOK prog (orc (spread_check_tab (spread_check_K d))) := hC0
  refine cok_of (c := bodyOf f12) (fn := f12) hT (by kernel_rfl) (by kernel_rfl) (by decide) fun x r h w0 φ0 Q hend => ?_
  replace h : F_spread_check d x = some r := h
  unfold F_spread_check at h
  show Run prog w0 φ0 23 (bodyOf f12) ⟨[(0, .agg [.fz Riii x.1.1]), (1, .agg [.int .i64 x.2.1.1, .int .i64 x.2.1.2.1]), (2, .agg [.int .i64 x.2.2.1.1, .int .i64 x.2.2.1.2.1])], []⟩ Q
  refine run_seq ?_
  refine run_reg hm hT hC (spread_check_g0 (spread_check_K d) (x.1.1, x.2.1.1, x.2.1.2.1, x.2.2.1.1, x.2.2.1.2.1)) h ?_
  intro y0 h
  refine cn_then ?_
  refine run_seq ?_
  refine run_seq ?_
  refine run_reg hm hT hC (spread_check_g1 (spread_check_K d) y0) h ?_
  intro y1 h
  refine cn_then ?_
  refine run_seq ?_
  refine run_reg hm hT hC (spread_check_g2 (spread_check_K d) y1) h ?_
  intro y2 h
  refine cn_then ?_
  refine run_cond (v := y2.2.1) (by kernel_rfl) h ?_ ?_
  ·
    intro h
    refine run_seq ?_
    refine run_reg hm hT hC (spread_check_g3 (spread_check_K d) y2) h ?_
    intro y3 h
    refine cn_then ?_
    refine run_ret ?_
    refine cn_then_ret ?_
    cases h
    exact (hend _ (by kernel_rfl)).2
  ·
    intro h
    refine run_skip ?_
    refine cn_then ?_
    refine run_seq ?_
    refine run_seq ?_
    refine run_reg hm hT hC (spread_check_g4 (spread_check_K d) y2) h ?_
    intro y4 h
    refine cn_then ?_
    refine run_cond (v := y4) (by kernel_rfl) h ?_ ?_
    ·
      intro h
      refine run_seq ?_
      refine run_reg hm hT hC (spread_check_g5 (spread_check_K d) y4) h ?_
      intro y5 h
      refine cn_then ?_
      refine run_ret ?_
      refine cn_then_ret ?_
      cases h
      exact (hend _ (by kernel_rfl)).2
    ·
      intro h
      refine run_skip ?_
      refine cn_then ?_
      refine run_seq ?_
      refine run_reg hm hT hC (spread_check_g6 (spread_check_K d) y4) h ?_
      intro y6 h
      refine cn_then ?_
      refine run_ret ?_
      cases h
      exact (hend _ (by kernel_rfl)).2
abbrev spread_ends_ps : List Pk := [.row RLiiiE true, .row Rii true]
abbrev spread_ends_X : Type := DLiiiE × Dii × Unit
abbrev spread_ends_R : Type := Int × Int × Int × Int × Int × Int
def spread_ends_enc (r : spread_ends_R) : LV × List Ob := (.tup [.agg [.int .i64 r.1, .int .i64 r.2.1, .int .i64 r.2.2.1], .agg [.int .i64 r.2.2.2.1, .int .i64 r.2.2.2.2.1, .int .i64 r.2.2.2.2.2]], [])
def spread_ends_sp (F : spread_ends_X → Option spread_ends_R) : Go.Tx.Spec := ⟨13, spread_ends_ps, spread_ends_R, F, spread_ends_enc⟩
abbrev spread_ends_C : Type := (field_Order_X → Option field_Order_R) × (field_Find_X → Option field_Find_R) × Unit
def spread_ends_K (d : Nat) : spread_ends_C := (F_field_Order d, F_field_Find d, ())
def spread_ends_tab (C : spread_ends_C) : List Go.Tx.Spec := [field_Order_sp C.1, field_Find_sp C.2.1]
abbrev spread_ends_Y0i : Type := List Diii × Int × Int
def spread_ends_S0i (v : spread_ends_Y0i) : St := ⟨[(0, .agg [.fz Riii v.1]), (1, .agg [.int .i64 v.2.1, .int .i64 v.2.2])], []⟩
abbrev spread_ends_Y0 : Type := List Diii × Int × Int × Int × Int × Int × Int × Int × Int
def spread_ends_S0 (v : spread_ends_Y0) : St := ⟨[(2, .ptr 0 0), (3, .ptr 1 0), (4, .ptr 2 0), (5, .ptr 3 0)], [.cells [.fz Riii v.1], .cells [.int .i64 v.2.1, .int .i64 v.2.2.1], .cells [.int .i64 v.2.2.2.1, .int .i64 v.2.2.2.2.1, .int .i64 v.2.2.2.2.2.1], .cells [.int .i64 v.2.2.2.2.2.2.1, .int .i64 v.2.2.2.2.2.2.2.1, .int .i64 v.2.2.2.2.2.2.2.2]]⟩
def spread_ends_r0 (C : spread_ends_C) (v : spread_ends_Y0i) : Dt spread_ends_Y0 := (Dt.ret (v.1, v.2.1, v.2.2, (0:Int), (0:Int), (0:Int), (0:Int), (0:Int), (0:Int)))
theorem spread_ends_g0 (C : spread_ends_C) (v : spread_ends_Y0i) : treg tysT (orc (spread_ends_tab C)) 39 (regO (bodyOf f13) 0) false [(2, (.box [.val Riii])), (3, .any), (4, .any), (5, .any)] (spread_ends_S0i v) some = (spread_ends_r0 C v).eval fun y => some (spread_ends_S0 y) := by kernel_rfl
abbrev spread_ends_Y1 : Type := List Diii × Int × Int × Int × Int × Int × Int × List Di
def spread_ends_S1 (v : spread_ends_Y1) : St := ⟨[(2, .ptr 0 0), (4, .ptr 1 0), (5, .ptr 2 0), (6, .rs 3)], [.cells [.fz Riii v.1], .cells [.int .i64 v.2.1, .int .i64 v.2.2.1, .int .i64 v.2.2.2.1], .cells [.int .i64 v.2.2.2.2.1, .int .i64 v.2.2.2.2.2.1, .int .i64 v.2.2.2.2.2.2.1], .rows Ri v.2.2.2.2.2.2.2]⟩
def spread_ends_r1 (C : spread_ends_C) (v : spread_ends_Y0) : Dt spread_ends_Y1 := (Dt.bnd (C.1 ((v.1, ()), (v.2.1, v.2.2.1, ()), ())) fun r1 => (Dt.ret (v.1, v.2.2.2.1, v.2.2.2.2.1, v.2.2.2.2.2.1, v.2.2.2.2.2.2.1, v.2.2.2.2.2.2.2.1, v.2.2.2.2.2.2.2.2, r1.1)))
theorem spread_ends_g1 (C : spread_ends_C) (v : spread_ends_Y0) : treg tysT (orc (spread_ends_tab C)) 39 (regO (bodyOf f13) 1) false [(2, (.box [.val Riii])), (4, .any), (5, .any), (6, (.own Ri))] (spread_ends_S0 v) some = (spread_ends_r1 C v).eval fun y => some (spread_ends_S1 y) := by kernel_rfl
abbrev spread_ends_Y2 : Type := List Diii × Int × Int × Int × Int × Int × Int × List Di × Int × Int × Int
def spread_ends_S2 (v : spread_ends_Y2) : St := ⟨[(2, .ptr 0 0), (4, .ptr 1 0), (5, .ptr 2 0), (6, .rs 3), (8, .ptr 4 0)], [.cells [.fz Riii v.1], .cells [.int .i64 v.2.1, .int .i64 v.2.2.1, .int .i64 v.2.2.2.1], .cells [.int .i64 v.2.2.2.2.1, .int .i64 v.2.2.2.2.2.1, .int .i64 v.2.2.2.2.2.2.1], .rows Ri v.2.2.2.2.2.2.2.1, .cells [.int .i64 v.2.2.2.2.2.2.2.2.1, .int .i64 v.2.2.2.2.2.2.2.2.2.1, .int .i64 v.2.2.2.2.2.2.2.2.2.2]]⟩
def spread_ends_r2 (C : spread_ends_C) (v : spread_ends_Y1) : Dt spread_ends_Y2 := (Dt.ite (inB (0:Int) (List.length v.2.2.2.2.2.2.2)) (Dt.bnd (C.2.1 ((v.1, ()), ((elt zi v.2.2.2.2.2.2.2 ((0:Int)).toNat).1, ()), ())) fun r1 => (Dt.ret (v.1, v.2.1, v.2.2.1, v.2.2.2.1, v.2.2.2.2.1, v.2.2.2.2.2.1, v.2.2.2.2.2.2.1, v.2.2.2.2.2.2.2, r1.1, r1.2.1, r1.2.2.1))) Dt.fail)
theorem spread_ends_g2 (C : spread_ends_C) (v : spread_ends_Y1) : treg tysT (orc (spread_ends_tab C)) 39 (regO (bodyOf f13) 2) true [(2, (.box [.val Riii])), (4, .any), (5, .any), (6, (.own Ri)), (8, .any)] (spread_ends_S1 v) some = (spread_ends_r2 C v).eval fun y => some (spread_ends_S2 y) := by kernel_rfl
abbrev spread_ends_Y3 : Type := Int × Int × Int × Int × Int × Int × Int × Int × Int × Int × Int × Int
def spread_ends_S3 (v : spread_ends_Y3) : St := ⟨[(4, .ptr 0 0), (5, .ptr 1 0), (8, .ptr 2 0), (10, .ptr 3 0)], [.cells [.int .i64 v.1, .int .i64 v.2.1, .int .i64 v.2.2.1], .cells [.int .i64 v.2.2.2.1, .int .i64 v.2.2.2.2.1, .int .i64 v.2.2.2.2.2.1], .cells [.int .i64 v.2.2.2.2.2.2.1, .int .i64 v.2.2.2.2.2.2.2.1, .int .i64 v.2.2.2.2.2.2.2.2.1], .cells [.int .i64 v.2.2.2.2.2.2.2.2.2.1, .int .i64 v.2.2.2.2.2.2.2.2.2.2.1, .int .i64 v.2.2.2.2.2.2.2.2.2.2.2]]⟩
def spread_ends_r3 (C : spread_ends_C) (v : spread_ends_Y2) : Dt spread_ends_Y3 := (Dt.ite (inB (IntKind.wrap .i64 ((List.length v.2.2.2.2.2.2.2.1 : Int) - (1:Int))) (List.length v.2.2.2.2.2.2.2.1)) (Dt.bnd (C.2.1 ((v.1, ()), ((elt zi v.2.2.2.2.2.2.2.1 ((IntKind.wrap .i64 ((List.length v.2.2.2.2.2.2.2.1 : Int) - (1:Int)))).toNat).1, ()), ())) fun r1 => (Dt.ret (v.2.1, v.2.2.1, v.2.2.2.1, v.2.2.2.2.1, v.2.2.2.2.2.1, v.2.2.2.2.2.2.1, v.2.2.2.2.2.2.2.2.1, v.2.2.2.2.2.2.2.2.2.1, v.2.2.2.2.2.2.2.2.2.2, r1.1, r1.2.1, r1.2.2.1))) Dt.fail)
theorem spread_ends_g3 (C : spread_ends_C) (v : spread_ends_Y2) : treg tysT (orc (spread_ends_tab C)) 39 (regO (bodyOf f13) 3) true [(4, .any), (5, .any), (8, .any), (10, .any)] (spread_ends_S2 v) some = (spread_ends_r3 C v).eval fun y => some (spread_ends_S3 y) := by kernel_rfl
abbrev spread_ends_Y4 : Type := Int × Int × Int × Int × Int × Int
def spread_ends_S4 (v : spread_ends_Y4) : St := ⟨[(4, .ptr 0 0), (5, .ptr 1 0)], [.cells [.int .i64 v.1, .int .i64 v.2.1, .int .i64 v.2.2.1], .cells [.int .i64 v.2.2.2.1, .int .i64 v.2.2.2.2.1, .int .i64 v.2.2.2.2.2]]⟩
def spread_ends_r4 (C : spread_ends_C) (v : spread_ends_Y3) : Dt spread_ends_Y4 := (Dt.ret (v.2.2.2.2.2.2.1, v.2.2.2.2.2.2.2.1, v.2.2.2.2.2.2.2.2.1, v.2.2.2.2.2.2.2.2.2.1, v.2.2.2.2.2.2.2.2.2.2.1, v.2.2.2.2.2.2.2.2.2.2.2))
theorem spread_ends_g4 (C : spread_ends_C) (v : spread_ends_Y3) : treg tysT (orc (spread_ends_tab C)) 39 (regO (bodyOf f13) 4) true [(4, .any), (5, .any)] (spread_ends_S3 v) some = (spread_ends_r4 C v).eval fun y => some (spread_ends_S4 y) := by kernel_rfl
def F_spread_ends (d : Nat) (x : spread_ends_X) : Option spread_ends_R :=
  (spread_ends_r0 (spread_ends_K d) (x.1.1, x.2.1.1, x.2.1.2.1)).eval fun y0 =>
  (spread_ends_r1 (spread_ends_K d) y0).eval fun y1 =>
  (spread_ends_r2 (spread_ends_K d) y1).eval fun y2 =>
  (spread_ends_r3 (spread_ends_K d) y2).eval fun y3 =>
  (spread_ends_r4 (spread_ends_K d) y3).eval fun y4 =>
  some y4
theorem spread_ends_cok (d : Nat) : COK prog (spread_ends_sp (F_spread_ends d)) := by
  have hm : prog.follows .mixedOrders = true := mixed
  have hT := tys
  have hC0 : OrcOK prog (orc (spread_ends_tab (spread_ends_K d))) := orc_ok (by
    intro S hS
    simp only [spread_ends_tab, List.mem_cons, List.not_mem_nil, or_false] at hS
    rcases hS with rfl | rfl
    · exact field_Order_cok d
    · exact field_Find_cok d)
  have hC : OrcOK prog (orc (spread_ends_tab (spread_ends_K d))) := hC0
  refine cok_of (c := bodyOf f13) (fn := f13) hT (by kernel_rfl) (by kernel_rfl) (by decide) fun x r h w0 φ0 Q hend => ?_
  replace h : F_spread_ends d x = some r := h
  unfold F_spread_ends at h
  show Run prog w0 φ0 39 (bodyOf f13) ⟨[(0, .agg [.fz Riii x.1.1]), (1, .agg [.int .i64 x.2.1.1, .int .i64 x.2.1.2.1])], []⟩ Q
  refine run_seq ?_
  refine run_reg hm hT hC (spread_ends_g0 (spread_ends_K d) (x.1.1, x.2.1.1, x.2.1.2.1)) h ?_
  intro y0 h
  refine cn_then ?_
  refine run_seq ?_
  refine run_reg hm hT hC (spread_ends_g1 (spread_ends_K d) y0) h ?_
  intro y1 h
  refine cn_then ?_
  refine run_seq ?_
  refine run_reg hm hT hC (spread_ends_g2 (spread_ends_K d) y1) h ?_
  intro y2 h
  refine cn_then ?_
  refine run_seq ?_
  refine run_reg hm hT hC (spread_ends_g3 (spread_ends_K d) y2) h ?_
  intro y3 h
  refine cn_then ?_
  refine run_seq ?_
  refine run_reg hm hT hC (spread_ends_g4 (spread_ends_K d) y3) h ?_
  intro y4 h
  refine cn_then ?_
  refine run_ret ?_
  cases h
  exact (hend _ (by kernel_rfl)).2
abbrev spread_Ends_ps : List Pk := [.row RLiiiE true, .row Rii true]
abbrev spread_Ends_X : Type := DLiiiE × Dii × Unit
abbrev spread_Ends_R : Type := Int × Int × Int
def spread_Ends_enc (r : spread_Ends_R) : LV × List Ob := (.tup [.int .i64 r.1, .int .i64 r.2.1, .int .i64 r.2.2], [])
def spread_Ends_sp (F : spread_Ends_X → Option spread_Ends_R) : Go.Tx.Spec := ⟨4, spread_Ends_ps, spread_Ends_R, F, spread_Ends_enc⟩
abbrev spread_Ends_C : Type := (spread_check_X → Option spread_check_R) × (spread_ends_X → Option spread_ends_R) × Unit
def spread_Ends_K (d : Nat) : spread_Ends_C := (F_spread_check d, F_spread_ends d, ())
def spread_Ends_tab (C : spread_Ends_C) : List Go.Tx.Spec := [spread_check_sp C.1, spread_ends_sp C.2.1]
abbrev spread_Ends_Y0i : Type := List Diii × Int × Int
def spread_Ends_S0i (v : spread_Ends_Y0i) : St := ⟨[(0, .agg [.fz Riii v.1]), (1, .agg [.int .i64 v.2.1, .int .i64 v.2.2])], []⟩
abbrev spread_Ends_Y0 : Type := List Diii × Int × Int
def spread_Ends_S0 (v : spread_Ends_Y0) : St := ⟨[(2, .ptr 0 0), (3, .ptr 1 0)], [.cells [.fz Riii v.1], .cells [.int .i64 v.2.1, .int .i64 v.2.2]]⟩
def spread_Ends_r0 (C : spread_Ends_C) (v : spread_Ends_Y0i) : Dt spread_Ends_Y0 := (Dt.ret (v.1, v.2.1, v.2.2))
theorem spread_Ends_g0 (C : spread_Ends_C) (v : spread_Ends_Y0i) : treg tysT (orc (spread_Ends_tab C)) 27 (regO (bodyOf f4) 0) false [(2, (.box [.val Riii])), (3, .any)] (spread_Ends_S0i v) some = (spread_Ends_r0 C v).eval fun y => some (spread_Ends_S0 y) := by kernel_rfl
abbrev spread_Ends_Y1 : Type := Int × List Diii × Int × Int
def spread_Ends_S1 (v : spread_Ends_Y1) : St := ⟨[(2, .ptr 0 0), (3, .ptr 1 0), (7, .int .i64 v.1)], [.cells [.fz Riii v.2.1], .cells [.int .i64 v.2.2.1, .int .i64 v.2.2.2]]⟩
def spread_Ends_r1 (C : spread_Ends_C) (v : spread_Ends_Y0) : Dt spread_Ends_Y1 := (Dt.bnd (C.1 ((v.1, ()), (v.2.1, v.2.2, ()), (v.2.1, v.2.2, ()), ())) fun r1 => (Dt.ret (r1, v.1, v.2.1, v.2.2)))
theorem spread_Ends_g1 (C : spread_Ends_C) (v : spread_Ends_Y0) : treg tysT (orc (spread_Ends_tab C)) 27 (regO (bodyOf f4) 1) false [(2, (.box [.val Riii])), (3, .any), (7, .any)] (spread_Ends_S0 v) some = (spread_Ends_r1 C v).eval fun y => some (spread_Ends_S1 y) := by kernel_rfl
abbrev spread_Ends_Y2 : Type := Int × Bool × List Diii × Int × Int
def spread_Ends_S2 (v : spread_Ends_Y2) : St := ⟨[(2, .ptr 0 0), (3, .ptr 1 0), (7, .int .i64 v.1), (15, .bool v.2.1)], [.cells [.fz Riii v.2.2.1], .cells [.int .i64 v.2.2.2.1, .int .i64 v.2.2.2.2]]⟩
def spread_Ends_r2 (C : spread_Ends_C) (v : spread_Ends_Y1) : Dt spread_Ends_Y2 := (Dt.ret (v.1, (v.1 != (0:Int)), v.2.1, v.2.2.1, v.2.2.2))
theorem spread_Ends_g2 (C : spread_Ends_C) (v : spread_Ends_Y1) : treg tysT (orc (spread_Ends_tab C)) 27 (regO (bodyOf f4) 2) false [(2, (.box [.val Riii])), (3, .any), (7, .any), (15, .any)] (spread_Ends_S1 v) some = (spread_Ends_r2 C v).eval fun y => some (spread_Ends_S2 y) := by kernel_rfl
abbrev spread_Ends_Y3 : Type := Int × Int × Int
def spread_Ends_S3 (v : spread_Ends_Y3) : St := ⟨[(4, .int .i64 v.1), (5, .int .i64 v.2.1), (6, .int .i64 v.2.2)], []⟩
def spread_Ends_r3 (C : spread_Ends_C) (v : spread_Ends_Y2) : Dt spread_Ends_Y3 := (Dt.ret ((0:Int), (0:Int), v.1))
theorem spread_Ends_g3 (C : spread_Ends_C) (v : spread_Ends_Y2) : treg tysT (orc (spread_Ends_tab C)) 27 (regO (bodyOf f4) 3) false [(4, .any), (5, .any), (6, .any)] (spread_Ends_S2 v) some = (spread_Ends_r3 C v).eval fun y => some (spread_Ends_S3 y) := by kernel_rfl
abbrev spread_Ends_Y4 : Type := Int × Int × Int × Int × Int × Int
def spread_Ends_S4 (v : spread_Ends_Y4) : St := ⟨[(8, .ptr 0 0), (9, .ptr 1 0)], [.cells [.int .i64 v.1, .int .i64 v.2.1, .int .i64 v.2.2.1], .cells [.int .i64 v.2.2.2.1, .int .i64 v.2.2.2.2.1, .int .i64 v.2.2.2.2.2]]⟩
def spread_Ends_r4 (C : spread_Ends_C) (v : spread_Ends_Y2) : Dt spread_Ends_Y4 := (Dt.bnd (C.2.1 ((v.2.2.1, ()), (v.2.2.2.1, v.2.2.2.2, ()), ())) fun r1 => (Dt.ret (r1.1, r1.2.1, r1.2.2.1, r1.2.2.2.1, r1.2.2.2.2.1, r1.2.2.2.2.2)))
theorem spread_Ends_g4 (C : spread_Ends_C) (v : spread_Ends_Y2) : treg tysT (orc (spread_Ends_tab C)) 27 (regO (bodyOf f4) 4) false [(8, .any), (9, .any)] (spread_Ends_S2 v) some = (spread_Ends_r4 C v).eval fun y => some (spread_Ends_S4 y) := by kernel_rfl
def spread_Ends_r5 (C : spread_Ends_C) (v : spread_Ends_Y4) : Dt spread_Ends_Y3 := (Dt.ret (v.1, v.2.2.2.1, (0:Int)))
theorem spread_Ends_g5 (C : spread_Ends_C) (v : spread_Ends_Y4) : treg tysT (orc (spread_Ends_tab C)) 27 (regO (bodyOf f4) 5) true [(4, .any), (5, .any), (6, .any)] (spread_Ends_S4 v) some = (spread_Ends_r5 C v).eval fun y => some (spread_Ends_S3 y) := by kernel_rfl
def F_spread_Ends (d : Nat) (x : spread_Ends_X) : Option spread_Ends_R :=
  (spread_Ends_r0 (spread_Ends_K d) (x.1.1, x.2.1.1, x.2.1.2.1)).eval fun y0 =>
  (spread_Ends_r1 (spread_Ends_K d) y0).eval fun y1 =>
  (spread_Ends_r2 (spread_Ends_K d) y1).eval fun y2 =>
  bif y2.2.1 then ((spread_Ends_r3 (spread_Ends_K d) y2).eval fun y3 =>
  some y3) else ((spread_Ends_r4 (spread_Ends_K d) y2).eval fun y4 =>
  (spread_Ends_r5 (spread_Ends_K d) y4).eval fun y5 =>
  some y5)
theorem spread_Ends_cok (d : Nat) : COK prog (spread_Ends_sp (F_spread_Ends d)) := by
  have hm : prog.follows .mixedOrders = true := mixed
  have hT := tys
  have hC0 : OrcOK prog (orc (spread_Ends_tab (spread_Ends_K d))) := orc_ok (by
    intro S hS
    simp only [spread_Ends_tab, List.mem_cons, List.not_mem_nil, or_false] at hS
    rcases hS with rfl | rfl
    · exact spread_check_cok d
    · exact spread_ends_cok d)
  have hC : OrcOK prog (orc (spread_Ends_tab (spread_Ends_K d))) := hC0
  refine cok_of (c := bodyOf f4) (fn := f4) hT (by kernel_rfl) (by kernel_rfl) (by decide) fun x r h w0 φ0 Q hend => ?_
  replace h : F_spread_Ends d x = some r := h
  unfold F_spread_Ends at h
  show Run prog w0 φ0 27 (bodyOf f4) ⟨[(0, .agg [.fz Riii x.1.1]), (1, .agg [.int .i64 x.2.1.1, .int .i64 x.2.1.2.1])], []⟩ Q
  refine run_seq ?_
  refine run_reg hm hT hC (spread_Ends_g0 (spread_Ends_K d) (x.1.1, x.2.1.1, x.2.1.2.1)) h ?_
  intro y0 h
  refine cn_then ?_
  refine run_seq ?_
  refine run_seq ?_
  refine run_reg hm hT hC (spread_Ends_g1 (spread_Ends_K d) y0) h ?_
  intro y1 h
  refine cn_then ?_
  refine run_seq ?_
  refine run_reg hm hT hC (spread_Ends_g2 (spread_Ends_K d) y1) h ?_
  intro y2 h
  refine cn_then ?_
  refine run_cond (v := y2.2.1) (by kernel_rfl) h ?_ ?_
  ·
    intro h
    refine run_seq ?_
    refine run_reg hm hT hC (spread_Ends_g3 (spread_Ends_K d) y2) h ?_
    intro y3 h
    refine cn_then ?_
    refine run_ret ?_
    refine cn_then_ret ?_
    cases h
    exact (hend _ (by kernel_rfl)).2
  ·
    intro h
    refine run_skip ?_
    refine cn_then ?_
    refine run_seq ?_
    refine run_reg hm hT hC (spread_Ends_g4 (spread_Ends_K d) y2) h ?_
    intro y4 h
    refine cn_then ?_
    refine run_seq ?_
    refine run_reg hm hT hC (spread_Ends_g5 (spread_Ends_K d) y4) h ?_
    intro y5 h
    refine cn_then ?_
    refine run_ret ?_
    cases h
    exact (hend _ (by kernel_rfl)).2
abbrev spread_At_ps : List Pk := [.row RLiiiE true, .row Rii true]
abbrev spread_At_X : Type := DLiiiE × Dii × Unit
abbrev spread_At_R : Type := Int × Int × Int
def spread_At_enc (r : spread_At_R) : LV × List Ob := (.tup [.agg [.int .i64 r.1, .int .i64 r.2.1], .int .i64 r.2.2], [])
def spread_At_sp (F : spread_At_X → Option spread_At_R) : Go.Tx.Spec := ⟨6, spread_At_ps, spread_At_R, F, spread_At_enc⟩
abbrev spread_At_C : Type := (spread_check_X → Option spread_check_R) × (spread_ends_X → Option spread_ends_R) × (course_At_X → Option course_At_R) × (ratio_Sub_X → Option ratio_Sub_R) × Unit
def spread_At_K (d : Nat) : spread_At_C := (F_spread_check d, F_spread_ends d, F_course_At d, F_ratio_Sub d, ())
def spread_At_tab (C : spread_At_C) : List Go.Tx.Spec := [spread_check_sp C.1, spread_ends_sp C.2.1, course_At_sp C.2.2.1, ratio_Sub_sp C.2.2.2.1]
abbrev spread_At_Y0i : Type := List Diii × Int × Int
def spread_At_S0i (v : spread_At_Y0i) : St := ⟨[(0, .agg [.fz Riii v.1]), (1, .agg [.int .i64 v.2.1, .int .i64 v.2.2])], []⟩
abbrev spread_At_Y0 : Type := List Diii × Int × Int × Int × Int
def spread_At_S0 (v : spread_At_Y0) : St := ⟨[(2, .ptr 0 0), (3, .ptr 1 0), (4, .ptr 2 0)], [.cells [.fz Riii v.1], .cells [.int .i64 v.2.1, .int .i64 v.2.2.1], .cells [.int .i64 v.2.2.2.1, .int .i64 v.2.2.2.2]]⟩
def spread_At_r0 (C : spread_At_C) (v : spread_At_Y0i) : Dt spread_At_Y0 := (Dt.ret (v.1, v.2.1, v.2.2, (0:Int), (0:Int)))
theorem spread_At_g0 (C : spread_At_C) (v : spread_At_Y0i) : treg tysT (orc (spread_At_tab C)) 51 (regO (bodyOf f6) 0) false [(2, (.box [.val Riii])), (3, .any), (4, .any)] (spread_At_S0i v) some = (spread_At_r0 C v).eval fun y => some (spread_At_S0 y) := by kernel_rfl
abbrev spread_At_Y1 : Type := Int × List Diii × Int × Int × Int × Int
def spread_At_S1 (v : spread_At_Y1) : St := ⟨[(2, .ptr 0 0), (3, .ptr 1 0), (4, .ptr 2 0), (6, .int .i64 v.1)], [.cells [.fz Riii v.2.1], .cells [.int .i64 v.2.2.1, .int .i64 v.2.2.2.1], .cells [.int .i64 v.2.2.2.2.1, .int .i64 v.2.2.2.2.2]]⟩
def spread_At_r1 (C : spread_At_C) (v : spread_At_Y0) : Dt spread_At_Y1 := (Dt.bnd (C.1 ((v.1, ()), (v.2.1, v.2.2.1, ()), (v.2.1, v.2.2.1, ()), ())) fun r1 => (Dt.ret (r1, v.1, v.2.1, v.2.2.1, v.2.2.2.1, v.2.2.2.2)))
theorem spread_At_g1 (C : spread_At_C) (v : spread_At_Y0) : treg tysT (orc (spread_At_tab C)) 51 (regO (bodyOf f6) 1) false [(2, (.box [.val Riii])), (3, .any), (4, .any), (6, .any)] (spread_At_S0 v) some = (spread_At_r1 C v).eval fun y => some (spread_At_S1 y) := by kernel_rfl
abbrev spread_At_Y2 : Type := Int × Bool × List Diii × Int × Int × Int × Int
def spread_At_S2 (v : spread_At_Y2) : St := ⟨[(2, .ptr 0 0), (3, .ptr 1 0), (4, .ptr 2 0), (6, .int .i64 v.1), (17, .bool v.2.1)], [.cells [.fz Riii v.2.2.1], .cells [.int .i64 v.2.2.2.1, .int .i64 v.2.2.2.2.1], .cells [.int .i64 v.2.2.2.2.2.1, .int .i64 v.2.2.2.2.2.2]]⟩
def spread_At_r2 (C : spread_At_C) (v : spread_At_Y1) : Dt spread_At_Y2 := (Dt.ret (v.1, (v.1 != (0:Int)), v.2.1, v.2.2.1, v.2.2.2.1, v.2.2.2.2.1, v.2.2.2.2.2))
theorem spread_At_g2 (C : spread_At_C) (v : spread_At_Y1) : treg tysT (orc (spread_At_tab C)) 51 (regO (bodyOf f6) 2) false [(2, (.box [.val Riii])), (3, .any), (4, .any), (6, .any), (17, .any)] (spread_At_S1 v) some = (spread_At_r2 C v).eval fun y => some (spread_At_S2 y) := by kernel_rfl
abbrev spread_At_Y3 : Type := Int × Int × Int
def spread_At_S3 (v : spread_At_Y3) : St := ⟨[(4, .ptr 0 0), (5, .int .i64 v.1)], [.cells [.int .i64 v.2.1, .int .i64 v.2.2]]⟩
def spread_At_r3 (C : spread_At_C) (v : spread_At_Y2) : Dt spread_At_Y3 := (Dt.ret (v.1, (0:Int), (0:Int)))
theorem spread_At_g3 (C : spread_At_C) (v : spread_At_Y2) : treg tysT (orc (spread_At_tab C)) 51 (regO (bodyOf f6) 3) false [(4, .any), (5, .any)] (spread_At_S2 v) some = (spread_At_r3 C v).eval fun y => some (spread_At_S3 y) := by kernel_rfl
abbrev spread_At_Y4 : Type := Int × Int × Int × Int × Int × Int × Int × Int × Int × Int
def spread_At_S4 (v : spread_At_Y4) : St := ⟨[(3, .ptr 0 0), (4, .ptr 1 0), (7, .ptr 2 0), (8, .ptr 3 0)], [.cells [.int .i64 v.1, .int .i64 v.2.1], .cells [.int .i64 v.2.2.1, .int .i64 v.2.2.2.1], .cells [.int .i64 v.2.2.2.2.1, .int .i64 v.2.2.2.2.2.1, .int .i64 v.2.2.2.2.2.2.1], .cells [.int .i64 v.2.2.2.2.2.2.2.1, .int .i64 v.2.2.2.2.2.2.2.2.1, .int .i64 v.2.2.2.2.2.2.2.2.2]]⟩
def spread_At_r4 (C : spread_At_C) (v : spread_At_Y2) : Dt spread_At_Y4 := (Dt.bnd (C.2.1 ((v.2.2.1, ()), (v.2.2.2.1, v.2.2.2.2.1, ()), ())) fun r1 => (Dt.ret (v.2.2.2.1, v.2.2.2.2.1, v.2.2.2.2.2.1, v.2.2.2.2.2.2, r1.1, r1.2.1, r1.2.2.1, r1.2.2.2.1, r1.2.2.2.2.1, r1.2.2.2.2.2)))
theorem spread_At_g4 (C : spread_At_C) (v : spread_At_Y2) : treg tysT (orc (spread_At_tab C)) 51 (regO (bodyOf f6) 4) false [(3, .any), (4, .any), (7, .any), (8, .any)] (spread_At_S2 v) some = (spread_At_r4 C v).eval fun y => some (spread_At_S4 y) := by kernel_rfl
abbrev spread_At_Y5 : Type := Int × Int × Int × Int × Int × Int × Int × Int × Int × Int
def spread_At_S5 (v : spread_At_Y5) : St := ⟨[(3, .ptr 0 0), (4, .ptr 1 0), (8, .ptr 2 0), (9, .ptr 3 0), (10, .int .i64 v.1)], [.cells [.int .i64 v.2.1, .int .i64 v.2.2.1], .cells [.int .i64 v.2.2.2.1, .int .i64 v.2.2.2.2.1], .cells [.int .i64 v.2.2.2.2.2.1, .int .i64 v.2.2.2.2.2.2.1, .int .i64 v.2.2.2.2.2.2.2.1], .cells [.int .i64 v.2.2.2.2.2.2.2.2.1, .int .i64 v.2.2.2.2.2.2.2.2.2]]⟩
def spread_At_r5 (C : spread_At_C) (v : spread_At_Y4) : Dt spread_At_Y5 := (Dt.bnd (C.2.2.1 ((v.2.2.2.2.1, v.2.2.2.2.2.1, v.2.2.2.2.2.2.1, ()), (v.1, v.2.1, ()), ())) fun r1 => (Dt.ret (r1.2.2, v.1, v.2.1, v.2.2.1, v.2.2.2.1, v.2.2.2.2.2.2.2.1, v.2.2.2.2.2.2.2.2.1, v.2.2.2.2.2.2.2.2.2, r1.1, r1.2.1)))
theorem spread_At_g5 (C : spread_At_C) (v : spread_At_Y4) : treg tysT (orc (spread_At_tab C)) 51 (regO (bodyOf f6) 5) false [(3, .any), (4, .any), (8, .any), (9, .any), (10, .any)] (spread_At_S4 v) some = (spread_At_r5 C v).eval fun y => some (spread_At_S5 y) := by kernel_rfl
abbrev spread_At_Y6 : Type := Int × Bool × Int × Int × Int × Int × Int × Int × Int × Int × Int
def spread_At_S6 (v : spread_At_Y6) : St := ⟨[(3, .ptr 0 0), (4, .ptr 1 0), (8, .ptr 2 0), (9, .ptr 3 0), (10, .int .i64 v.1), (33, .bool v.2.1)], [.cells [.int .i64 v.2.2.1, .int .i64 v.2.2.2.1], .cells [.int .i64 v.2.2.2.2.1, .int .i64 v.2.2.2.2.2.1], .cells [.int .i64 v.2.2.2.2.2.2.1, .int .i64 v.2.2.2.2.2.2.2.1, .int .i64 v.2.2.2.2.2.2.2.2.1], .cells [.int .i64 v.2.2.2.2.2.2.2.2.2.1, .int .i64 v.2.2.2.2.2.2.2.2.2.2]]⟩
def spread_At_r6 (C : spread_At_C) (v : spread_At_Y5) : Dt spread_At_Y6 := (Dt.ret (v.1, (v.1 != (0:Int)), v.2.1, v.2.2.1, v.2.2.2.1, v.2.2.2.2.1, v.2.2.2.2.2.1, v.2.2.2.2.2.2.1, v.2.2.2.2.2.2.2.1, v.2.2.2.2.2.2.2.2.1, v.2.2.2.2.2.2.2.2.2))
theorem spread_At_g6 (C : spread_At_C) (v : spread_At_Y5) : treg tysT (orc (spread_At_tab C)) 51 (regO (bodyOf f6) 6) false [(3, .any), (4, .any), (8, .any), (9, .any), (10, .any), (33, .any)] (spread_At_S5 v) some = (spread_At_r6 C v).eval fun y => some (spread_At_S6 y) := by kernel_rfl
def spread_At_r7 (C : spread_At_C) (v : spread_At_Y6) : Dt spread_At_Y3 := (Dt.ret (v.1, (0:Int), (0:Int)))
theorem spread_At_g7 (C : spread_At_C) (v : spread_At_Y6) : treg tysT (orc (spread_At_tab C)) 51 (regO (bodyOf f6) 7) false [(4, .any), (5, .any)] (spread_At_S6 v) some = (spread_At_r7 C v).eval fun y => some (spread_At_S3 y) := by kernel_rfl
abbrev spread_At_Y8 : Type := Int × Int × Int × Int × Int × Int × Int
def spread_At_S8 (v : spread_At_Y8) : St := ⟨[(4, .ptr 0 0), (9, .ptr 1 0), (10, .int .i64 v.1), (11, .ptr 2 0)], [.cells [.int .i64 v.2.1, .int .i64 v.2.2.1], .cells [.int .i64 v.2.2.2.1, .int .i64 v.2.2.2.2.1], .cells [.int .i64 v.2.2.2.2.2.1, .int .i64 v.2.2.2.2.2.2]]⟩
def spread_At_r8 (C : spread_At_C) (v : spread_At_Y6) : Dt spread_At_Y8 := (Dt.bnd (C.2.2.1 ((v.2.2.2.2.2.2.1, v.2.2.2.2.2.2.2.1, v.2.2.2.2.2.2.2.2.1, ()), (v.2.2.1, v.2.2.2.1, ()), ())) fun r1 => (Dt.ret (r1.2.2, v.2.2.2.2.1, v.2.2.2.2.2.1, v.2.2.2.2.2.2.2.2.2.1, v.2.2.2.2.2.2.2.2.2.2, r1.1, r1.2.1)))
theorem spread_At_g8 (C : spread_At_C) (v : spread_At_Y6) : treg tysT (orc (spread_At_tab C)) 51 (regO (bodyOf f6) 8) false [(4, .any), (9, .any), (10, .any), (11, .any)] (spread_At_S6 v) some = (spread_At_r8 C v).eval fun y => some (spread_At_S8 y) := by kernel_rfl
abbrev spread_At_Y9 : Type := Int × Bool × Int × Int × Int × Int × Int × Int
def spread_At_S9 (v : spread_At_Y9) : St := ⟨[(4, .ptr 0 0), (9, .ptr 1 0), (10, .int .i64 v.1), (11, .ptr 2 0), (43, .bool v.2.1)], [.cells [.int .i64 v.2.2.1, .int .i64 v.2.2.2.1], .cells [.int .i64 v.2.2.2.2.1, .int .i64 v.2.2.2.2.2.1], .cells [.int .i64 v.2.2.2.2.2.2.1, .int .i64 v.2.2.2.2.2.2.2]]⟩
def spread_At_r9 (C : spread_At_C) (v : spread_At_Y8) : Dt spread_At_Y9 := (Dt.ret (v.1, (v.1 != (0:Int)), v.2.1, v.2.2.1, v.2.2.2.1, v.2.2.2.2.1, v.2.2.2.2.2.1, v.2.2.2.2.2.2))
theorem spread_At_g9 (C : spread_At_C) (v : spread_At_Y8) : treg tysT (orc (spread_At_tab C)) 51 (regO (bodyOf f6) 9) false [(4, .any), (9, .any), (10, .any), (11, .any), (43, .any)] (spread_At_S8 v) some = (spread_At_r9 C v).eval fun y => some (spread_At_S9 y) := by kernel_rfl
def spread_At_r10 (C : spread_At_C) (v : spread_At_Y9) : Dt spread_At_Y3 := (Dt.ret (v.1, (0:Int), (0:Int)))
theorem spread_At_g10 (C : spread_At_C) (v : spread_At_Y9) : treg tysT (orc (spread_At_tab C)) 51 (regO (bodyOf f6) 10) false [(4, .any), (5, .any)] (spread_At_S9 v) some = (spread_At_r10 C v).eval fun y => some (spread_At_S3 y) := by kernel_rfl
def spread_At_r11 (C : spread_At_C) (v : spread_At_Y9) : Dt spread_At_Y3 := (Dt.bnd (C.2.2.2.1 ((v.2.2.2.2.1, v.2.2.2.2.2.1, ()), (v.2.2.2.2.2.2.1, v.2.2.2.2.2.2.2, ()), ())) fun r1 => (Dt.ret (r1.2.2, r1.1, r1.2.1)))
theorem spread_At_g11 (C : spread_At_C) (v : spread_At_Y9) : treg tysT (orc (spread_At_tab C)) 51 (regO (bodyOf f6) 11) false [(4, .any), (5, .any)] (spread_At_S9 v) some = (spread_At_r11 C v).eval fun y => some (spread_At_S3 y) := by kernel_rfl
def F_spread_At (d : Nat) (x : spread_At_X) : Option spread_At_R :=
  (spread_At_r0 (spread_At_K d) (x.1.1, x.2.1.1, x.2.1.2.1)).eval fun y0 =>
  (spread_At_r1 (spread_At_K d) y0).eval fun y1 =>
  (spread_At_r2 (spread_At_K d) y1).eval fun y2 =>
  bif y2.2.1 then ((spread_At_r3 (spread_At_K d) y2).eval fun y3 =>
  some (y3.2.1, y3.2.2, y3.1)) else ((spread_At_r4 (spread_At_K d) y2).eval fun y4 =>
  (spread_At_r5 (spread_At_K d) y4).eval fun y5 =>
  (spread_At_r6 (spread_At_K d) y5).eval fun y6 =>
  bif y6.2.1 then ((spread_At_r7 (spread_At_K d) y6).eval fun y7 =>
  some (y7.2.1, y7.2.2, y7.1)) else ((spread_At_r8 (spread_At_K d) y6).eval fun y8 =>
  (spread_At_r9 (spread_At_K d) y8).eval fun y9 =>
  bif y9.2.1 then ((spread_At_r10 (spread_At_K d) y9).eval fun y10 =>
  some (y10.2.1, y10.2.2, y10.1)) else ((spread_At_r11 (spread_At_K d) y9).eval fun y11 =>
  some (y11.2.1, y11.2.2, y11.1))))
theorem spread_At_cok (d : Nat) : COK prog (spread_At_sp (F_spread_At d)) := by
  have hm : prog.follows .mixedOrders = true := mixed
  have hT := tys
  have hC0 : OrcOK prog (orc (spread_At_tab (spread_At_K d))) := orc_ok (by
    intro S hS
    simp only [spread_At_tab, List.mem_cons, List.not_mem_nil, or_false] at hS
    rcases hS with rfl | rfl | rfl | rfl
    · exact spread_check_cok d
    · exact spread_ends_cok d
    · exact course_At_cok d
    · exact ratio_Sub_cok d)
  have hC : OrcOK prog (orc (spread_At_tab (spread_At_K d))) := hC0
  refine cok_of (c := bodyOf f6) (fn := f6) hT (by kernel_rfl) (by kernel_rfl) (by decide) fun x r h w0 φ0 Q hend => ?_
  replace h : F_spread_At d x = some r := h
  unfold F_spread_At at h
  show Run prog w0 φ0 51 (bodyOf f6) ⟨[(0, .agg [.fz Riii x.1.1]), (1, .agg [.int .i64 x.2.1.1, .int .i64 x.2.1.2.1])], []⟩ Q
  refine run_seq ?_
  refine run_reg hm hT hC (spread_At_g0 (spread_At_K d) (x.1.1, x.2.1.1, x.2.1.2.1)) h ?_
  intro y0 h
  refine cn_then ?_
  refine run_seq ?_
  refine run_seq ?_
  refine run_reg hm hT hC (spread_At_g1 (spread_At_K d) y0) h ?_
  intro y1 h
  refine cn_then ?_
  refine run_seq ?_
  refine run_reg hm hT hC (spread_At_g2 (spread_At_K d) y1) h ?_
  intro y2 h
  refine cn_then ?_
  refine run_cond (v := y2.2.1) (by kernel_rfl) h ?_ ?_
  ·
    intro h
    refine run_seq ?_
    refine run_reg hm hT hC (spread_At_g3 (spread_At_K d) y2) h ?_
    intro y3 h
    refine cn_then ?_
    refine run_ret ?_
    refine cn_then_ret ?_
    cases h
    exact (hend _ (by kernel_rfl)).2
  ·
    intro h
    refine run_skip ?_
    refine cn_then ?_
    refine run_seq ?_
    refine run_reg hm hT hC (spread_At_g4 (spread_At_K d) y2) h ?_
    intro y4 h
    refine cn_then ?_
    refine run_seq ?_
    refine run_reg hm hT hC (spread_At_g5 (spread_At_K d) y4) h ?_
    intro y5 h
    refine cn_then ?_
    refine run_seq ?_
    refine run_seq ?_
    refine run_reg hm hT hC (spread_At_g6 (spread_At_K d) y5) h ?_
    intro y6 h
    refine cn_then ?_
    refine run_cond (v := y6.2.1) (by kernel_rfl) h ?_ ?_
    ·
      intro h
      refine run_seq ?_
      refine run_reg hm hT hC (spread_At_g7 (spread_At_K d) y6) h ?_
      intro y7 h
      refine cn_then ?_
      refine run_ret ?_
      refine cn_then_ret ?_
      cases h
      exact (hend _ (by kernel_rfl)).2
    ·
      intro h
      refine run_skip ?_
      refine cn_then ?_
      refine run_seq ?_
      refine run_reg hm hT hC (spread_At_g8 (spread_At_K d) y6) h ?_
      intro y8 h
      refine cn_then ?_
      refine run_seq ?_
      refine run_seq ?_
      refine run_reg hm hT hC (spread_At_g9 (spread_At_K d) y8) h ?_
      intro y9 h
      refine cn_then ?_
      refine run_cond (v := y9.2.1) (by kernel_rfl) h ?_ ?_
      ·
        intro h
        refine run_seq ?_
        refine run_reg hm hT hC (spread_At_g10 (spread_At_K d) y9) h ?_
        intro y10 h
        refine cn_then ?_
        refine run_ret ?_
        refine cn_then_ret ?_
        cases h
        exact (hend _ (by kernel_rfl)).2
      ·
        intro h
        refine run_skip ?_
        refine cn_then ?_
        refine run_seq ?_
        refine run_reg hm hT hC (spread_At_g11 (spread_At_K d) y9) h ?_
        intro y11 h
        refine cn_then ?_
        refine run_ret ?_
        cases h
        exact (hend _ (by kernel_rfl)).2
abbrev spread_Slope_ps : List Pk := [.row RLiiiE true, .row Rii true]
abbrev spread_Slope_X : Type := DLiiiE × Dii × Unit
abbrev spread_Slope_R : Type := Int × Int
def spread_Slope_enc (r : spread_Slope_R) : LV × List Ob := (.tup [.int .i64 r.1, .int .i64 r.2], [])
def spread_Slope_sp (F : spread_Slope_X → Option spread_Slope_R) : Go.Tx.Spec := ⟨7, spread_Slope_ps, spread_Slope_R, F, spread_Slope_enc⟩
abbrev spread_Slope_C : Type := (spread_check_X → Option spread_check_R) × (spread_ends_X → Option spread_ends_R) × Unit
def spread_Slope_K (d : Nat) : spread_Slope_C := (F_spread_check d, F_spread_ends d, ())
def spread_Slope_tab (C : spread_Slope_C) : List Go.Tx.Spec := [spread_check_sp C.1, spread_ends_sp C.2.1]
abbrev spread_Slope_Y0i : Type := List Diii × Int × Int
def spread_Slope_S0i (v : spread_Slope_Y0i) : St := ⟨[(0, .agg [.fz Riii v.1]), (1, .agg [.int .i64 v.2.1, .int .i64 v.2.2])], []⟩
abbrev spread_Slope_Y0 : Type := List Diii × Int × Int
def spread_Slope_S0 (v : spread_Slope_Y0) : St := ⟨[(2, .ptr 0 0), (3, .ptr 1 0)], [.cells [.fz Riii v.1], .cells [.int .i64 v.2.1, .int .i64 v.2.2]]⟩
def spread_Slope_r0 (C : spread_Slope_C) (v : spread_Slope_Y0i) : Dt spread_Slope_Y0 := (Dt.ret (v.1, v.2.1, v.2.2))
theorem spread_Slope_g0 (C : spread_Slope_C) (v : spread_Slope_Y0i) : treg tysT (orc (spread_Slope_tab C)) 27 (regO (bodyOf f7) 0) false [(2, (.box [.val Riii])), (3, .any)] (spread_Slope_S0i v) some = (spread_Slope_r0 C v).eval fun y => some (spread_Slope_S0 y) := by kernel_rfl
abbrev spread_Slope_Y1 : Type := Int × List Diii × Int × Int
def spread_Slope_S1 (v : spread_Slope_Y1) : St := ⟨[(2, .ptr 0 0), (3, .ptr 1 0), (6, .int .i64 v.1)], [.cells [.fz Riii v.2.1], .cells [.int .i64 v.2.2.1, .int .i64 v.2.2.2]]⟩
def spread_Slope_r1 (C : spread_Slope_C) (v : spread_Slope_Y0) : Dt spread_Slope_Y1 := (Dt.bnd (C.1 ((v.1, ()), (v.2.1, v.2.2, ()), (v.2.1, v.2.2, ()), ())) fun r1 => (Dt.ret (r1, v.1, v.2.1, v.2.2)))
theorem spread_Slope_g1 (C : spread_Slope_C) (v : spread_Slope_Y0) : treg tysT (orc (spread_Slope_tab C)) 27 (regO (bodyOf f7) 1) false [(2, (.box [.val Riii])), (3, .any), (6, .any)] (spread_Slope_S0 v) some = (spread_Slope_r1 C v).eval fun y => some (spread_Slope_S1 y) := by kernel_rfl
abbrev spread_Slope_Y2 : Type := Int × Bool × List Diii × Int × Int
def spread_Slope_S2 (v : spread_Slope_Y2) : St := ⟨[(2, .ptr 0 0), (3, .ptr 1 0), (6, .int .i64 v.1), (14, .bool v.2.1)], [.cells [.fz Riii v.2.2.1], .cells [.int .i64 v.2.2.2.1, .int .i64 v.2.2.2.2]]⟩
def spread_Slope_r2 (C : spread_Slope_C) (v : spread_Slope_Y1) : Dt spread_Slope_Y2 := (Dt.ret (v.1, (v.1 != (0:Int)), v.2.1, v.2.2.1, v.2.2.2))
theorem spread_Slope_g2 (C : spread_Slope_C) (v : spread_Slope_Y1) : treg tysT (orc (spread_Slope_tab C)) 27 (regO (bodyOf f7) 2) false [(2, (.box [.val Riii])), (3, .any), (6, .any), (14, .any)] (spread_Slope_S1 v) some = (spread_Slope_r2 C v).eval fun y => some (spread_Slope_S2 y) := by kernel_rfl
abbrev spread_Slope_Y3 : Type := Int × Int
def spread_Slope_S3 (v : spread_Slope_Y3) : St := ⟨[(4, .int .i64 v.1), (5, .int .i64 v.2)], []⟩
def spread_Slope_r3 (C : spread_Slope_C) (v : spread_Slope_Y2) : Dt spread_Slope_Y3 := (Dt.ret ((0:Int), v.1))
theorem spread_Slope_g3 (C : spread_Slope_C) (v : spread_Slope_Y2) : treg tysT (orc (spread_Slope_tab C)) 27 (regO (bodyOf f7) 3) false [(4, .any), (5, .any)] (spread_Slope_S2 v) some = (spread_Slope_r3 C v).eval fun y => some (spread_Slope_S3 y) := by kernel_rfl
abbrev spread_Slope_Y4 : Type := Int × Int × Int × Int × Int × Int
def spread_Slope_S4 (v : spread_Slope_Y4) : St := ⟨[(7, .ptr 0 0), (8, .ptr 1 0)], [.cells [.int .i64 v.1, .int .i64 v.2.1, .int .i64 v.2.2.1], .cells [.int .i64 v.2.2.2.1, .int .i64 v.2.2.2.2.1, .int .i64 v.2.2.2.2.2]]⟩
def spread_Slope_r4 (C : spread_Slope_C) (v : spread_Slope_Y2) : Dt spread_Slope_Y4 := (Dt.bnd (C.2.1 ((v.2.2.1, ()), (v.2.2.2.1, v.2.2.2.2, ()), ())) fun r1 => (Dt.ret (r1.1, r1.2.1, r1.2.2.1, r1.2.2.2.1, r1.2.2.2.2.1, r1.2.2.2.2.2)))
theorem spread_Slope_g4 (C : spread_Slope_C) (v : spread_Slope_Y2) : treg tysT (orc (spread_Slope_tab C)) 27 (regO (bodyOf f7) 4) false [(7, .any), (8, .any)] (spread_Slope_S2 v) some = (spread_Slope_r4 C v).eval fun y => some (spread_Slope_S4 y) := by kernel_rfl
def spread_Slope_r5 (C : spread_Slope_C) (v : spread_Slope_Y4) : Dt spread_Slope_Y3 := (Dt.ret ((IntKind.wrap .i64 (v.2.2.1 - v.2.2.2.2.2)), (0:Int)))
theorem spread_Slope_g5 (C : spread_Slope_C) (v : spread_Slope_Y4) : treg tysT (orc (spread_Slope_tab C)) 27 (regO (bodyOf f7) 5) false [(4, .any), (5, .any)] (spread_Slope_S4 v) some = (spread_Slope_r5 C v).eval fun y => some (spread_Slope_S3 y) := by kernel_rfl
def F_spread_Slope (d : Nat) (x : spread_Slope_X) : Option spread_Slope_R :=
  (spread_Slope_r0 (spread_Slope_K d) (x.1.1, x.2.1.1, x.2.1.2.1)).eval fun y0 =>
  (spread_Slope_r1 (spread_Slope_K d) y0).eval fun y1 =>
  (spread_Slope_r2 (spread_Slope_K d) y1).eval fun y2 =>
  bif y2.2.1 then ((spread_Slope_r3 (spread_Slope_K d) y2).eval fun y3 =>
  some y3) else ((spread_Slope_r4 (spread_Slope_K d) y2).eval fun y4 =>
  (spread_Slope_r5 (spread_Slope_K d) y4).eval fun y5 =>
  some y5)
theorem spread_Slope_cok (d : Nat) : COK prog (spread_Slope_sp (F_spread_Slope d)) := by
  have hm : prog.follows .mixedOrders = true := mixed
  have hT := tys
  have hC0 : OrcOK prog (orc (spread_Slope_tab (spread_Slope_K d))) := orc_ok (by
    intro S hS
    simp only [spread_Slope_tab, List.mem_cons, List.not_mem_nil, or_false] at hS
    rcases hS with rfl | rfl
    · exact spread_check_cok d
    · exact spread_ends_cok d)
  have hC : OrcOK prog (orc (spread_Slope_tab (spread_Slope_K d))) := hC0
  refine cok_of (c := bodyOf f7) (fn := f7) hT (by kernel_rfl) (by kernel_rfl) (by decide) fun x r h w0 φ0 Q hend => ?_
  replace h : F_spread_Slope d x = some r := h
  unfold F_spread_Slope at h
  show Run prog w0 φ0 27 (bodyOf f7) ⟨[(0, .agg [.fz Riii x.1.1]), (1, .agg [.int .i64 x.2.1.1, .int .i64 x.2.1.2.1])], []⟩ Q
  refine run_seq ?_
  refine run_reg hm hT hC (spread_Slope_g0 (spread_Slope_K d) (x.1.1, x.2.1.1, x.2.1.2.1)) h ?_
  intro y0 h
  refine cn_then ?_
  refine run_seq ?_
  refine run_seq ?_
  refine run_reg hm hT hC (spread_Slope_g1 (spread_Slope_K d) y0) h ?_
  intro y1 h
  refine cn_then ?_
  refine run_seq ?_
  refine run_reg hm hT hC (spread_Slope_g2 (spread_Slope_K d) y1) h ?_
  intro y2 h
  refine cn_then ?_
  refine run_cond (v := y2.2.1) (by kernel_rfl) h ?_ ?_
  ·
    intro h
    refine run_seq ?_
    refine run_reg hm hT hC (spread_Slope_g3 (spread_Slope_K d) y2) h ?_
    intro y3 h
    refine cn_then ?_
    refine run_ret ?_
    refine cn_then_ret ?_
    cases h
    exact (hend _ (by kernel_rfl)).2
  ·
    intro h
    refine run_skip ?_
    refine cn_then ?_
    refine run_seq ?_
    refine run_reg hm hT hC (spread_Slope_g4 (spread_Slope_K d) y2) h ?_
    intro y4 h
    refine cn_then ?_
    refine run_seq ?_
    refine run_reg hm hT hC (spread_Slope_g5 (spread_Slope_K d) y4) h ?_
    intro y5 h
    refine cn_then ?_
    refine run_ret ?_
    cases h
    exact (hend _ (by kernel_rfl)).2
abbrev spread_all_ps : List Pk := [.row RLiiiE true, .row Rii true, .row Rii true]
abbrev spread_all_X : Type := DLiiiE × Dii × Dii × Unit
abbrev spread_all_R : Type := List Diii
def spread_all_enc (r : spread_all_R) : LV × List Ob := (.rs 0, [.rows Riii r])
def spread_all_sp (F : spread_all_X → Option spread_all_R) : Go.Tx.Spec := ⟨16, spread_all_ps, spread_all_R, F, spread_all_enc⟩
abbrev spread_all_C : Type := (spread_Slope_X → Option spread_Slope_R) × (meet_All_X → Option meet_All_R) × Unit
def spread_all_K (d : Nat) : spread_all_C := (F_spread_Slope d, F_meet_All d, ())
def spread_all_tab (C : spread_all_C) : List Go.Tx.Spec := [spread_Slope_sp C.1, meet_All_sp C.2.1]
abbrev spread_all_Y0i : Type := List Diii × Int × Int × Int × Int
def spread_all_S0i (v : spread_all_Y0i) : St := ⟨[(0, .agg [.fz Riii v.1]), (1, .agg [.int .i64 v.2.1, .int .i64 v.2.2.1]), (2, .agg [.int .i64 v.2.2.2.1, .int .i64 v.2.2.2.2])], []⟩
abbrev spread_all_Y0 : Type := List Diii × Int × Int × Int × Int
def spread_all_S0 (v : spread_all_Y0) : St := ⟨[(3, .ptr 0 0), (4, .ptr 1 0), (5, .ptr 2 0)], [.cells [.fz Riii v.1], .cells [.int .i64 v.2.1, .int .i64 v.2.2.1], .cells [.int .i64 v.2.2.2.1, .int .i64 v.2.2.2.2]]⟩
def spread_all_r0 (C : spread_all_C) (v : spread_all_Y0i) : Dt spread_all_Y0 := (Dt.ret (v.1, v.2.1, v.2.2.1, v.2.2.2.1, v.2.2.2.2))
theorem spread_all_g0 (C : spread_all_C) (v : spread_all_Y0i) : treg tysT (orc (spread_all_tab C)) 64 (regO (bodyOf f16) 0) false [(3, (.box [.val Riii])), (4, .any), (5, .any)] (spread_all_S0i v) some = (spread_all_r0 C v).eval fun y => some (spread_all_S0 y) := by kernel_rfl
abbrev spread_all_Y1 : Type := Int × List Diii × Int × Int × Int × Int
def spread_all_S1 (v : spread_all_Y1) : St := ⟨[(3, .ptr 0 0), (4, .ptr 1 0), (5, .ptr 2 0), (7, .int .i64 v.1)], [.cells [.fz Riii v.2.1], .cells [.int .i64 v.2.2.1, .int .i64 v.2.2.2.1], .cells [.int .i64 v.2.2.2.2.1, .int .i64 v.2.2.2.2.2]]⟩
def spread_all_r1 (C : spread_all_C) (v : spread_all_Y0) : Dt spread_all_Y1 := (Dt.bnd (C.1 ((v.1, ()), (v.2.1, v.2.2.1, ()), ())) fun r1 => (Dt.ret (r1.1, v.1, v.2.1, v.2.2.1, v.2.2.2.1, v.2.2.2.2)))
theorem spread_all_g1 (C : spread_all_C) (v : spread_all_Y0) : treg tysT (orc (spread_all_tab C)) 64 (regO (bodyOf f16) 1) false [(3, (.box [.val Riii])), (4, .any), (5, .any), (7, .any)] (spread_all_S0 v) some = (spread_all_r1 C v).eval fun y => some (spread_all_S1 y) := by kernel_rfl
abbrev spread_all_Y2 : Type := List Diii × Int × Int × Int × Int × List Diii
def spread_all_S2 (v : spread_all_Y2) : St := ⟨[(3, .ptr 0 0), (4, .ptr 1 0), (5, .ptr 2 0), (9, .rs 3)], [.cells [.fz Riii v.1], .cells [.int .i64 v.2.1, .int .i64 v.2.2.1], .cells [.int .i64 v.2.2.2.1, .int .i64 v.2.2.2.2.1], .rows Riii v.2.2.2.2.2]⟩
def spread_all_r2 (C : spread_all_C) (v : spread_all_Y1) : Dt spread_all_Y2 := (Dt.ret (v.2.1, v.2.2.1, v.2.2.2.1, v.2.2.2.2.1, v.2.2.2.2.2, ([(v.2.2.1, v.2.2.2.1, v.1, ())] : List Diii)))
theorem spread_all_g2 (C : spread_all_C) (v : spread_all_Y1) : treg tysT (orc (spread_all_tab C)) 64 (regO (bodyOf f16) 2) false [(3, (.box [.val Riii])), (4, .any), (5, .any), (9, (.own Riii))] (spread_all_S1 v) some = (spread_all_r2 C v).eval fun y => some (spread_all_S2 y) := by kernel_rfl
abbrev spread_all_Y3 : Type := List Diiii × List Diii × List Diii
def spread_all_S3 (v : spread_all_Y3) : St := ⟨[(3, .ptr 0 0), (9, .rs 1), (10, .fz Riiii v.1)], [.cells [.fz Riii v.2.1], .rows Riii v.2.2]⟩
def spread_all_r3 (C : spread_all_C) (v : spread_all_Y2) : Dt spread_all_Y3 := (Dt.bnd (C.2.1 ((v.1, ()), (v.2.1, v.2.2.1, ()), (v.2.2.2.1, v.2.2.2.2.1, ()), ())) fun r1 => (Dt.ret (r1.1, v.1, v.2.2.2.2.2)))
theorem spread_all_g3 (C : spread_all_C) (v : spread_all_Y2) : treg tysT (orc (spread_all_tab C)) 64 (regO (bodyOf f16) 3) false [(3, (.box [.val Riii])), (9, (.own Riii)), (10, (.val Riiii))] (spread_all_S2 v) some = (spread_all_r3 C v).eval fun y => some (spread_all_S3 y) := by kernel_rfl
abbrev spread_all_Y4 : Type := List Diiii × Int × Int × List Diii × List Diii
def spread_all_S4 (v : spread_all_Y4) : St := ⟨[(3, .ptr 0 0), (9, .rs 1), (33, .fz Riiii v.1), (34, .int .i64 v.2.1), (35, .int .i64 v.2.2.1)], [.cells [.fz Riii v.2.2.2.1], .rows Riii v.2.2.2.2]⟩
def spread_all_r4 (C : spread_all_C) (v : spread_all_Y3) : Dt spread_all_Y4 := (Dt.ret (v.1, (List.length v.1 : Int), (0:Int), v.2.1, v.2.2))
theorem spread_all_g4 (C : spread_all_C) (v : spread_all_Y3) : treg tysT (orc (spread_all_tab C)) 64 (regO (bodyOf f16) 4) false [(3, (.box [.val Riii])), (9, (.own Riii)), (33, (.val Riiii)), (34, .any), (35, .any)] (spread_all_S3 v) some = (spread_all_r4 C v).eval fun y => some (spread_all_S4 y) := by kernel_rfl
abbrev spread_all_Y5 : Type := List Diiii × Int × Int × Bool × List Diii × List Diii
def spread_all_S5 (v : spread_all_Y5) : St := ⟨[(3, .ptr 0 0), (9, .rs 1), (33, .fz Riiii v.1), (34, .int .i64 v.2.1), (35, .int .i64 v.2.2.1), (36, .bool v.2.2.2.1)], [.cells [.fz Riii v.2.2.2.2.1], .rows Riii v.2.2.2.2.2]⟩
def spread_all_r5 (C : spread_all_C) (v : spread_all_Y4) : Dt spread_all_Y5 := (Dt.ret (v.1, v.2.1, v.2.2.1, (decide (v.2.2.1 < v.2.1)), v.2.2.2.1, v.2.2.2.2))
theorem spread_all_g5 (C : spread_all_C) (v : spread_all_Y4) : treg tysT (orc (spread_all_tab C)) 64 (regO (bodyOf f16) 5) false [(3, (.box [.val Riii])), (9, (.own Riii)), (33, (.val Riiii)), (34, .any), (35, .any), (36, .any)] (spread_all_S4 v) some = (spread_all_r5 C v).eval fun y => some (spread_all_S5 y) := by kernel_rfl
abbrev spread_all_Y6 : Type := List Diiii × Int × Int × List Diii × List Diii × Int × Int × Int × Int
def spread_all_S6 (v : spread_all_Y6) : St := ⟨[(3, .ptr 0 0), (9, .rs 1), (13, .ptr 2 0), (33, .fz Riiii v.1), (34, .int .i64 v.2.1), (35, .int .i64 v.2.2.1)], [.cells [.fz Riii v.2.2.2.1], .rows Riii v.2.2.2.2.1, .cells [.int .i64 v.2.2.2.2.2.1, .int .i64 v.2.2.2.2.2.2.1, .int .i64 v.2.2.2.2.2.2.2.1, .int .i64 v.2.2.2.2.2.2.2.2]]⟩
def spread_all_r6 (C : spread_all_C) (v : spread_all_Y5) : Dt spread_all_Y6 := (Dt.ite (inB v.2.2.1 (List.length v.1)) (Dt.ret (v.1, v.2.1, v.2.2.1, v.2.2.2.2.1, v.2.2.2.2.2, (elt ziiii v.1 (v.2.2.1).toNat).1, (elt ziiii v.1 (v.2.2.1).toNat).2.1, (elt ziiii v.1 (v.2.2.1).toNat).2.2.1, (elt ziiii v.1 (v.2.2.1).toNat).2.2.2.1)) Dt.fail)
theorem spread_all_g6 (C : spread_all_C) (v : spread_all_Y5) : treg tysT (orc (spread_all_tab C)) 64 (regO (bodyOf f16) 6) false [(3, (.box [.val Riii])), (9, (.own Riii)), (13, .any), (33, (.val Riiii)), (34, .any), (35, .any)] (spread_all_S5 v) some = (spread_all_r6 C v).eval fun y => some (spread_all_S6 y) := by kernel_rfl
abbrev spread_all_Y7 : Type := Int × List Diiii × Int × Int × List Diii × List Diii × Int × Int × Int × Int
def spread_all_S7 (v : spread_all_Y7) : St := ⟨[(3, .ptr 0 0), (9, .rs 1), (13, .ptr 2 0), (14, .int .i64 v.1), (33, .fz Riiii v.2.1), (34, .int .i64 v.2.2.1), (35, .int .i64 v.2.2.2.1)], [.cells [.fz Riii v.2.2.2.2.1], .rows Riii v.2.2.2.2.2.1, .cells [.int .i64 v.2.2.2.2.2.2.1, .int .i64 v.2.2.2.2.2.2.2.1, .int .i64 v.2.2.2.2.2.2.2.2.1, .int .i64 v.2.2.2.2.2.2.2.2.2]]⟩
def spread_all_r7 (C : spread_all_C) (v : spread_all_Y6) : Dt spread_all_Y7 := (Dt.bnd (C.1 ((v.2.2.2.1, ()), (v.2.2.2.2.2.1, v.2.2.2.2.2.2.1, ()), ())) fun r1 => (Dt.ret (r1.1, v.1, v.2.1, v.2.2.1, v.2.2.2.1, v.2.2.2.2.1, v.2.2.2.2.2.1, v.2.2.2.2.2.2.1, v.2.2.2.2.2.2.2.1, v.2.2.2.2.2.2.2.2)))
theorem spread_all_g7 (C : spread_all_C) (v : spread_all_Y6) : treg tysT (orc (spread_all_tab C)) 64 (regO (bodyOf f16) 7) false [(3, (.box [.val Riii])), (9, (.own Riii)), (13, .any), (14, .any), (33, (.val Riiii)), (34, .any), (35, .any)] (spread_all_S6 v) some = (spread_all_r7 C v).eval fun y => some (spread_all_S7 y) := by kernel_rfl
abbrev spread_all_Y8 : Type := Int × List Diiii × Int × Int × Bool × List Diii × List Diii × Int × Int × Int × Int
def spread_all_S8 (v : spread_all_Y8) : St := ⟨[(3, .ptr 0 0), (9, .rs 1), (13, .ptr 2 0), (14, .int .i64 v.1), (33, .fz Riiii v.2.1), (34, .int .i64 v.2.2.1), (35, .int .i64 v.2.2.2.1), (54, .bool v.2.2.2.2.1)], [.cells [.fz Riii v.2.2.2.2.2.1], .rows Riii v.2.2.2.2.2.2.1, .cells [.int .i64 v.2.2.2.2.2.2.2.1, .int .i64 v.2.2.2.2.2.2.2.2.1, .int .i64 v.2.2.2.2.2.2.2.2.2.1, .int .i64 v.2.2.2.2.2.2.2.2.2.2]]⟩
def spread_all_r8 (C : spread_all_C) (v : spread_all_Y7) : Dt spread_all_Y8 := (Dt.ite (inB (IntKind.wrap .i64 ((List.length v.2.2.2.2.2.1 : Int) - (1:Int))) (List.length v.2.2.2.2.2.1)) (Dt.ret (v.1, v.2.1, v.2.2.1, v.2.2.2.1, (v.1 != (elt ziii v.2.2.2.2.2.1 ((IntKind.wrap .i64 ((List.length v.2.2.2.2.2.1 : Int) - (1:Int)))).toNat).2.2.1), v.2.2.2.2.1, v.2.2.2.2.2.1, v.2.2.2.2.2.2.1, v.2.2.2.2.2.2.2.1, v.2.2.2.2.2.2.2.2.1, v.2.2.2.2.2.2.2.2.2)) Dt.fail)
theorem spread_all_g8 (C : spread_all_C) (v : spread_all_Y7) : treg tysT (orc (spread_all_tab C)) 64 (regO (bodyOf f16) 8) false [(3, (.box [.val Riii])), (9, (.own Riii)), (13, .any), (14, .any), (33, (.val Riiii)), (34, .any), (35, .any), (54, .any)] (spread_all_S7 v) some = (spread_all_r8 C v).eval fun y => some (spread_all_S8 y) := by kernel_rfl
def spread_all_r9 (C : spread_all_C) (v : spread_all_Y8) : Dt spread_all_Y4 := (Dt.ite (apB (List.length v.2.2.2.2.2.2.1) (List.length ([(v.2.2.2.2.2.2.2.1, v.2.2.2.2.2.2.2.2.1, v.1, ())] : List Diii))) (Dt.ret (v.2.1, v.2.2.1, v.2.2.2.1, v.2.2.2.2.2.1, (v.2.2.2.2.2.2.1 ++ ([(v.2.2.2.2.2.2.2.1, v.2.2.2.2.2.2.2.2.1, v.1, ())] : List Diii)))) Dt.fail)
theorem spread_all_g9 (C : spread_all_C) (v : spread_all_Y8) : treg tysT (orc (spread_all_tab C)) 64 (regO (bodyOf f16) 9) false [(3, (.box [.val Riii])), (9, (.own Riii)), (33, (.val Riiii)), (34, .any), (35, .any)] (spread_all_S8 v) some = (spread_all_r9 C v).eval fun y => some (spread_all_S4 y) := by kernel_rfl
def spread_all_r10 (C : spread_all_C) (v : spread_all_Y4) : Dt spread_all_Y4 := (Dt.ret (v.1, v.2.1, (IntKind.wrap .i64 (v.2.2.1 + (1:Int))), v.2.2.2.1, v.2.2.2.2))
theorem spread_all_g10 (C : spread_all_C) (v : spread_all_Y4) : treg tysT (orc (spread_all_tab C)) 64 (regO (bodyOf f16) 10) false [(3, (.box [.val Riii])), (9, (.own Riii)), (33, (.val Riiii)), (34, .any), (35, .any)] (spread_all_S4 v) some = (spread_all_r10 C v).eval fun y => some (spread_all_S4 y) := by kernel_rfl
def spread_all_J2  (d : Nat) (self1 : (List Diiii × Int × Int × List Diii × List Diii) → Option spread_all_R) (z : List Diiii × Int × Int × List Diii × List Diii) : Option (spread_all_R) :=
  (spread_all_r10 (spread_all_K d) z).eval fun y10 =>
  self1 y10
abbrev spread_all_Y11 : Type := List Diii
def spread_all_S11 (v : spread_all_Y11) : St := ⟨[(6, .rs 0)], [.rows Riii v]⟩
def spread_all_r11 (C : spread_all_C) (v : spread_all_Y5) : Dt spread_all_Y11 := (Dt.ret v.2.2.2.2.2)
theorem spread_all_g11 (C : spread_all_C) (v : spread_all_Y5) : treg tysT (orc (spread_all_tab C)) 64 (regO (bodyOf f16) 11) false [(6, (.own Riii))] (spread_all_S5 v) some = (spread_all_r11 C v).eval fun y => some (spread_all_S11 y) := by kernel_rfl
def spread_all_L1 (d : Nat) (self1 : (List Diiii × Int × Int × List Diii × List Diii) → Option spread_all_R) (x1 : List Diiii × Int × Int × List Diii × List Diii) : Option spread_all_R :=
  (spread_all_r5 (spread_all_K d) x1).eval fun y5 =>
  bif y5.2.2.2.1 then ((spread_all_r6 (spread_all_K d) y5).eval fun y6 =>
  (spread_all_r7 (spread_all_K d) y6).eval fun y7 =>
  (spread_all_r8 (spread_all_K d) y7).eval fun y8 =>
  bif y8.2.2.2.2.1 then ((spread_all_r9 (spread_all_K d) y8).eval fun y9 =>
  spread_all_J2 d self1 y9) else (spread_all_J2 d self1 (y8.2.1, y8.2.2.1, y8.2.2.2.1, y8.2.2.2.2.2.1, y8.2.2.2.2.2.2.1))) else ((spread_all_r11 (spread_all_K d) y5).eval fun y11 =>
  some y11)
def F_spread_all (d : Nat) (x : spread_all_X) : Option spread_all_R :=
  (spread_all_r0 (spread_all_K d) (x.1.1, x.2.1.1, x.2.1.2.1, x.2.2.1.1, x.2.2.1.2.1)).eval fun y0 =>
  (spread_all_r1 (spread_all_K d) y0).eval fun y1 =>
  (spread_all_r2 (spread_all_K d) y1).eval fun y2 =>
  (spread_all_r3 (spread_all_K d) y2).eval fun y3 =>
  (spread_all_r4 (spread_all_K d) y3).eval fun y4 =>
  iter (spread_all_L1 d ) d y4
theorem spread_all_cok (d : Nat) : COK prog (spread_all_sp (F_spread_all d)) := by
  have hm : prog.follows .mixedOrders = true := mixed
  have hT := tys
  have hC0 : OrcOK prog (orc (spread_all_tab (spread_all_K d))) := orc_ok (by
    intro S hS
    simp only [spread_all_tab, List.mem_cons, List.not_mem_nil, or_false] at hS
    rcases hS with rfl | rfl
    · exact spread_Slope_cok d
    · exact meet_All_cok d)
  have hC : OrcOK prog (orc (spread_all_tab (spread_all_K d))) := hC0
  refine cok_of (c := bodyOf f16) (fn := f16) hT (by kernel_rfl) (by kernel_rfl) (by decide) fun x r h w0 φ0 Q hend => ?_
  replace h : F_spread_all d x = some r := h
  unfold F_spread_all at h
  show Run prog w0 φ0 64 (bodyOf f16) ⟨[(0, .agg [.fz Riii x.1.1]), (1, .agg [.int .i64 x.2.1.1, .int .i64 x.2.1.2.1]), (2, .agg [.int .i64 x.2.2.1.1, .int .i64 x.2.2.1.2.1])], []⟩ Q
  refine run_seq ?_
  refine run_reg hm hT hC (spread_all_g0 (spread_all_K d) (x.1.1, x.2.1.1, x.2.1.2.1, x.2.2.1.1, x.2.2.1.2.1)) h ?_
  intro y0 h
  refine cn_then ?_
  refine run_seq ?_
  refine run_reg hm hT hC (spread_all_g1 (spread_all_K d) y0) h ?_
  intro y1 h
  refine cn_then ?_
  refine run_seq ?_
  refine run_reg hm hT hC (spread_all_g2 (spread_all_K d) y1) h ?_
  intro y2 h
  refine cn_then ?_
  refine run_seq ?_
  refine run_reg hm hT hC (spread_all_g3 (spread_all_K d) y2) h ?_
  intro y3 h
  refine cn_then ?_
  refine run_seq ?_
  refine run_seq ?_
  refine run_reg hm hT hC (spread_all_g4 (spread_all_K d) y3) h ?_
  intro y4 h
  refine cn_then ?_
  refine run_block ?_
  refine run_loop (G := iter (spread_all_L1 d )) (S := (fun x1 => ⟨[(3, .ptr 0 0), (9, .rs 1), (33, .fz Riiii x1.1), (34, .int .i64 x1.2.1), (35, .int .i64 x1.2.2.1)], [.cells [.fz Riii x1.2.2.2.1], .rows Riii x1.2.2.2.2]⟩ : List Diiii × Int × Int × List Diii × List Diii → St)) (fun _ => rfl) ?_ d _ h
  intro n1 x1 h K1 hn1
  replace h : spread_all_L1 d  (iter (spread_all_L1 d ) n1) x1 = some r := h
  generalize iter (spread_all_L1 d ) n1 = self1 at h hn1
  unfold spread_all_L1 at h
  refine run_seq ?_
  refine run_reg hm hT hC (spread_all_g5 (spread_all_K d) x1) h ?_
  intro y5 h
  refine cn_then ?_
  refine run_seq ?_
  refine run_cond (v := y5.2.2.2.1) (by kernel_rfl) h ?_ ?_
  ·
    intro h
    refine run_skip ?_
    refine cn_then ?_
    refine run_join (r := r) (F := spread_all_J2 d self1) (S := (fun z => ⟨[(3, .ptr 0 0), (9, .rs 1), (33, .fz Riiii z.1), (34, .int .i64 z.2.1), (35, .int .i64 z.2.2.1)], [.cells [.fz Riii z.2.2.2.1], .rows Riii z.2.2.2.2]⟩ : List Diiii × Int × Int × List Diii × List Diii → St)) ?_ ?_
    ·
      intro z h
      unfold spread_all_J2 at h
      refine run_reg hm hT hC (spread_all_g10 (spread_all_K d) z) h ?_
      intro y10 h
      exact hn1 _ h
    intro hj2
    refine run_block ?_
    refine run_seq ?_
    refine run_reg hm hT hC (spread_all_g6 (spread_all_K d) y5) h ?_
    intro y6 h
    refine cn_then ?_
    refine run_seq ?_
    refine run_reg hm hT hC (spread_all_g7 (spread_all_K d) y6) h ?_
    intro y7 h
    refine cn_then ?_
    refine run_seq ?_
    refine run_reg hm hT hC (spread_all_g8 (spread_all_K d) y7) h ?_
    intro y8 h
    refine cn_then ?_
    refine run_cond (v := y8.2.2.2.2.1) (by kernel_rfl) h ?_ ?_
    ·
      intro h
      refine run_reg hm hT hC (spread_all_g9 (spread_all_K d) y8) h ?_
      intro y9 h
      refine cn_blk ?_
      exact hj2 _ h
    ·
      intro h
      refine run_skip ?_
      refine cn_blk ?_
      refine cn_num (s := ⟨[(3, .ptr 0 0), (9, .rs 1), (33, .fz Riiii y8.2.1), (34, .int .i64 y8.2.2.1), (35, .int .i64 y8.2.2.2.1)], [.cells [.fz Riii y8.2.2.2.2.2.1], .rows Riii y8.2.2.2.2.2.2.1]⟩) [13, 14, 54] (by kernel_rfl) ?_
      exact hj2 _ h
  ·
    intro h
    refine run_exit ?_
    refine cn_then_exit ?_
    refine cn_then_exit ?_
    refine cn_blk_eq ?_
    refine cn_then ?_
    refine run_seq ?_
    refine run_reg hm hT hC (spread_all_g11 (spread_all_K d) y5) h ?_
    intro y11 h
    refine cn_then ?_
    refine run_ret ?_
    cases h
    exact (hend _ (by kernel_rfl)).2
abbrev spread_Turns_ps : List Pk := [.row RLiiiE true, .row Rii true, .row Rii true]
abbrev spread_Turns_X : Type := DLiiiE × Dii × Dii × Unit
abbrev spread_Turns_R : Type := List Dii × Int
def spread_Turns_enc (r : spread_Turns_R) : LV × List Ob := (.tup [.rs 0, .int .i64 r.2], [.rows Rii r.1])
def spread_Turns_sp (F : spread_Turns_X → Option spread_Turns_R) : Go.Tx.Spec := ⟨8, spread_Turns_ps, spread_Turns_R, F, spread_Turns_enc⟩
abbrev spread_Turns_C : Type := (spread_check_X → Option spread_check_R) × (spread_all_X → Option spread_all_R) × Unit
def spread_Turns_K (d : Nat) : spread_Turns_C := (F_spread_check d, F_spread_all d, ())
def spread_Turns_tab (C : spread_Turns_C) : List Go.Tx.Spec := [spread_check_sp C.1, spread_all_sp C.2.1]
abbrev spread_Turns_Y0i : Type := List Diii × Int × Int × Int × Int
def spread_Turns_S0i (v : spread_Turns_Y0i) : St := ⟨[(0, .agg [.fz Riii v.1]), (1, .agg [.int .i64 v.2.1, .int .i64 v.2.2.1]), (2, .agg [.int .i64 v.2.2.2.1, .int .i64 v.2.2.2.2])], []⟩
abbrev spread_Turns_Y0 : Type := List Diii × Int × Int × Int × Int
def spread_Turns_S0 (v : spread_Turns_Y0) : St := ⟨[(3, .ptr 0 0), (4, .ptr 1 0), (5, .ptr 2 0)], [.cells [.fz Riii v.1], .cells [.int .i64 v.2.1, .int .i64 v.2.2.1], .cells [.int .i64 v.2.2.2.1, .int .i64 v.2.2.2.2]]⟩
def spread_Turns_r0 (C : spread_Turns_C) (v : spread_Turns_Y0i) : Dt spread_Turns_Y0 := (Dt.ret (v.1, v.2.1, v.2.2.1, v.2.2.2.1, v.2.2.2.2))
theorem spread_Turns_g0 (C : spread_Turns_C) (v : spread_Turns_Y0i) : treg tysT (orc (spread_Turns_tab C)) 36 (regO (bodyOf f8) 0) false [(3, (.box [.val Riii])), (4, .any), (5, .any)] (spread_Turns_S0i v) some = (spread_Turns_r0 C v).eval fun y => some (spread_Turns_S0 y) := by kernel_rfl
abbrev spread_Turns_Y1 : Type := Int × List Diii × Int × Int × Int × Int
def spread_Turns_S1 (v : spread_Turns_Y1) : St := ⟨[(3, .ptr 0 0), (4, .ptr 1 0), (5, .ptr 2 0), (8, .int .i64 v.1)], [.cells [.fz Riii v.2.1], .cells [.int .i64 v.2.2.1, .int .i64 v.2.2.2.1], .cells [.int .i64 v.2.2.2.2.1, .int .i64 v.2.2.2.2.2]]⟩
def spread_Turns_r1 (C : spread_Turns_C) (v : spread_Turns_Y0) : Dt spread_Turns_Y1 := (Dt.bnd (C.1 ((v.1, ()), (v.2.1, v.2.2.1, ()), (v.2.2.2.1, v.2.2.2.2, ()), ())) fun r1 => (Dt.ret (r1, v.1, v.2.1, v.2.2.1, v.2.2.2.1, v.2.2.2.2)))
theorem spread_Turns_g1 (C : spread_Turns_C) (v : spread_Turns_Y0) : treg tysT (orc (spread_Turns_tab C)) 36 (regO (bodyOf f8) 1) false [(3, (.box [.val Riii])), (4, .any), (5, .any), (8, .any)] (spread_Turns_S0 v) some = (spread_Turns_r1 C v).eval fun y => some (spread_Turns_S1 y) := by kernel_rfl
abbrev spread_Turns_Y2 : Type := Int × Bool × List Diii × Int × Int × Int × Int
def spread_Turns_S2 (v : spread_Turns_Y2) : St := ⟨[(3, .ptr 0 0), (4, .ptr 1 0), (5, .ptr 2 0), (8, .int .i64 v.1), (17, .bool v.2.1)], [.cells [.fz Riii v.2.2.1], .cells [.int .i64 v.2.2.2.1, .int .i64 v.2.2.2.2.1], .cells [.int .i64 v.2.2.2.2.2.1, .int .i64 v.2.2.2.2.2.2]]⟩
def spread_Turns_r2 (C : spread_Turns_C) (v : spread_Turns_Y1) : Dt spread_Turns_Y2 := (Dt.ret (v.1, (v.1 != (0:Int)), v.2.1, v.2.2.1, v.2.2.2.1, v.2.2.2.2.1, v.2.2.2.2.2))
theorem spread_Turns_g2 (C : spread_Turns_C) (v : spread_Turns_Y1) : treg tysT (orc (spread_Turns_tab C)) 36 (regO (bodyOf f8) 2) false [(3, (.box [.val Riii])), (4, .any), (5, .any), (8, .any), (17, .any)] (spread_Turns_S1 v) some = (spread_Turns_r2 C v).eval fun y => some (spread_Turns_S2 y) := by kernel_rfl
abbrev spread_Turns_Y3 : Type := Int × List Dii
def spread_Turns_S3 (v : spread_Turns_Y3) : St := ⟨[(6, .rs 0), (7, .int .i64 v.1)], [.rows Rii v.2]⟩
def spread_Turns_r3 (C : spread_Turns_C) (v : spread_Turns_Y2) : Dt spread_Turns_Y3 := (Dt.ret (v.1, ([] : List Dii)))
theorem spread_Turns_g3 (C : spread_Turns_C) (v : spread_Turns_Y2) : treg tysT (orc (spread_Turns_tab C)) 36 (regO (bodyOf f8) 3) false [(6, (.own Rii)), (7, .any)] (spread_Turns_S2 v) some = (spread_Turns_r3 C v).eval fun y => some (spread_Turns_S3 y) := by kernel_rfl
abbrev spread_Turns_Y4 : Type := List Diii × Int × Int × Int × Int × List Dii
def spread_Turns_S4 (v : spread_Turns_Y4) : St := ⟨[(3, .ptr 0 0), (4, .ptr 1 0), (5, .ptr 2 0), (9, .rs 3)], [.cells [.fz Riii v.1], .cells [.int .i64 v.2.1, .int .i64 v.2.2.1], .cells [.int .i64 v.2.2.2.1, .int .i64 v.2.2.2.2.1], .rows Rii v.2.2.2.2.2]⟩
def spread_Turns_r4 (C : spread_Turns_C) (v : spread_Turns_Y2) : Dt spread_Turns_Y4 := (Dt.ret (v.2.2.1, v.2.2.2.1, v.2.2.2.2.1, v.2.2.2.2.2.1, v.2.2.2.2.2.2, ([] : List Dii)))
theorem spread_Turns_g4 (C : spread_Turns_C) (v : spread_Turns_Y2) : treg tysT (orc (spread_Turns_tab C)) 36 (regO (bodyOf f8) 4) false [(3, (.box [.val Riii])), (4, .any), (5, .any), (9, (.own Rii))] (spread_Turns_S2 v) some = (spread_Turns_r4 C v).eval fun y => some (spread_Turns_S4 y) := by kernel_rfl
abbrev spread_Turns_Y5 : Type := List Diii × Int × Int × List Dii
def spread_Turns_S5 (v : spread_Turns_Y5) : St := ⟨[(9, .rs 0), (23, .fz Riii v.1), (24, .int .i64 v.2.1), (25, .int .i64 v.2.2.1)], [.rows Rii v.2.2.2]⟩
def spread_Turns_r5 (C : spread_Turns_C) (v : spread_Turns_Y4) : Dt spread_Turns_Y5 := (Dt.bnd (C.2.1 ((v.1, ()), (v.2.1, v.2.2.1, ()), (v.2.2.2.1, v.2.2.2.2.1, ()), ())) fun r1 => (Dt.ite (decide (0 ≤ (1:Int)) && decide ((1:Int) ≤ (List.length r1 : Int))) (Dt.ret ((List.drop ((1:Int)).toNat r1), (List.length (List.drop ((1:Int)).toNat r1) : Int), (0:Int), v.2.2.2.2.2)) Dt.fail))
theorem spread_Turns_g5 (C : spread_Turns_C) (v : spread_Turns_Y4) : treg tysT (orc (spread_Turns_tab C)) 36 (regO (bodyOf f8) 5) false [(9, (.own Rii)), (23, (.val Riii)), (24, .any), (25, .any)] (spread_Turns_S4 v) some = (spread_Turns_r5 C v).eval fun y => some (spread_Turns_S5 y) := by kernel_rfl
abbrev spread_Turns_Y6 : Type := List Diii × Int × Int × Bool × List Dii
def spread_Turns_S6 (v : spread_Turns_Y6) : St := ⟨[(9, .rs 0), (23, .fz Riii v.1), (24, .int .i64 v.2.1), (25, .int .i64 v.2.2.1), (26, .bool v.2.2.2.1)], [.rows Rii v.2.2.2.2]⟩
def spread_Turns_r6 (C : spread_Turns_C) (v : spread_Turns_Y5) : Dt spread_Turns_Y6 := (Dt.ret (v.1, v.2.1, v.2.2.1, (decide (v.2.2.1 < v.2.1)), v.2.2.2))
theorem spread_Turns_g6 (C : spread_Turns_C) (v : spread_Turns_Y5) : treg tysT (orc (spread_Turns_tab C)) 36 (regO (bodyOf f8) 6) false [(9, (.own Rii)), (23, (.val Riii)), (24, .any), (25, .any), (26, .any)] (spread_Turns_S5 v) some = (spread_Turns_r6 C v).eval fun y => some (spread_Turns_S6 y) := by kernel_rfl
abbrev spread_Turns_Y7 : Type := List Diii × Int × Int × List Dii × Int × Int × Int
def spread_Turns_S7 (v : spread_Turns_Y7) : St := ⟨[(9, .rs 0), (11, .ptr 1 0), (23, .fz Riii v.1), (24, .int .i64 v.2.1), (25, .int .i64 v.2.2.1)], [.rows Rii v.2.2.2.1, .cells [.int .i64 v.2.2.2.2.1, .int .i64 v.2.2.2.2.2.1, .int .i64 v.2.2.2.2.2.2]]⟩
def spread_Turns_r7 (C : spread_Turns_C) (v : spread_Turns_Y6) : Dt spread_Turns_Y7 := (Dt.ite (inB v.2.2.1 (List.length v.1)) (Dt.ret (v.1, v.2.1, v.2.2.1, v.2.2.2.2, (elt ziii v.1 (v.2.2.1).toNat).1, (elt ziii v.1 (v.2.2.1).toNat).2.1, (elt ziii v.1 (v.2.2.1).toNat).2.2.1)) Dt.fail)
theorem spread_Turns_g7 (C : spread_Turns_C) (v : spread_Turns_Y6) : treg tysT (orc (spread_Turns_tab C)) 36 (regO (bodyOf f8) 7) false [(9, (.own Rii)), (11, .any), (23, (.val Riii)), (24, .any), (25, .any)] (spread_Turns_S6 v) some = (spread_Turns_r7 C v).eval fun y => some (spread_Turns_S7 y) := by kernel_rfl
def spread_Turns_r8 (C : spread_Turns_C) (v : spread_Turns_Y7) : Dt spread_Turns_Y5 := (Dt.ite (apB (List.length v.2.2.2.1) (List.length ([(v.2.2.2.2.1, v.2.2.2.2.2.1, ())] : List Dii))) (Dt.ret (v.1, v.2.1, v.2.2.1, (v.2.2.2.1 ++ ([(v.2.2.2.2.1, v.2.2.2.2.2.1, ())] : List Dii)))) Dt.fail)
theorem spread_Turns_g8 (C : spread_Turns_C) (v : spread_Turns_Y7) : treg tysT (orc (spread_Turns_tab C)) 36 (regO (bodyOf f8) 8) false [(9, (.own Rii)), (23, (.val Riii)), (24, .any), (25, .any)] (spread_Turns_S7 v) some = (spread_Turns_r8 C v).eval fun y => some (spread_Turns_S5 y) := by kernel_rfl
def spread_Turns_r9 (C : spread_Turns_C) (v : spread_Turns_Y5) : Dt spread_Turns_Y5 := (Dt.ret (v.1, v.2.1, (IntKind.wrap .i64 (v.2.2.1 + (1:Int))), v.2.2.2))
theorem spread_Turns_g9 (C : spread_Turns_C) (v : spread_Turns_Y5) : treg tysT (orc (spread_Turns_tab C)) 36 (regO (bodyOf f8) 9) false [(9, (.own Rii)), (23, (.val Riii)), (24, .any), (25, .any)] (spread_Turns_S5 v) some = (spread_Turns_r9 C v).eval fun y => some (spread_Turns_S5 y) := by kernel_rfl
def spread_Turns_r10 (C : spread_Turns_C) (v : spread_Turns_Y6) : Dt spread_Turns_Y3 := (Dt.ret ((0:Int), v.2.2.2.2))
theorem spread_Turns_g10 (C : spread_Turns_C) (v : spread_Turns_Y6) : treg tysT (orc (spread_Turns_tab C)) 36 (regO (bodyOf f8) 10) false [(6, (.own Rii)), (7, .any)] (spread_Turns_S6 v) some = (spread_Turns_r10 C v).eval fun y => some (spread_Turns_S3 y) := by kernel_rfl
def spread_Turns_L1 (d : Nat) (self1 : (List Diii × Int × Int × List Dii) → Option spread_Turns_R) (x1 : List Diii × Int × Int × List Dii) : Option spread_Turns_R :=
  (spread_Turns_r6 (spread_Turns_K d) x1).eval fun y6 =>
  bif y6.2.2.2.1 then ((spread_Turns_r7 (spread_Turns_K d) y6).eval fun y7 =>
  (spread_Turns_r8 (spread_Turns_K d) y7).eval fun y8 =>
  (spread_Turns_r9 (spread_Turns_K d) y8).eval fun y9 =>
  self1 y9) else ((spread_Turns_r10 (spread_Turns_K d) y6).eval fun y10 =>
  some (y10.2, y10.1))
def F_spread_Turns (d : Nat) (x : spread_Turns_X) : Option spread_Turns_R :=
  (spread_Turns_r0 (spread_Turns_K d) (x.1.1, x.2.1.1, x.2.1.2.1, x.2.2.1.1, x.2.2.1.2.1)).eval fun y0 =>
  (spread_Turns_r1 (spread_Turns_K d) y0).eval fun y1 =>
  (spread_Turns_r2 (spread_Turns_K d) y1).eval fun y2 =>
  bif y2.2.1 then ((spread_Turns_r3 (spread_Turns_K d) y2).eval fun y3 =>
  some (y3.2, y3.1)) else ((spread_Turns_r4 (spread_Turns_K d) y2).eval fun y4 =>
  (spread_Turns_r5 (spread_Turns_K d) y4).eval fun y5 =>
  iter (spread_Turns_L1 d ) d y5)
theorem spread_Turns_cok (d : Nat) : COK prog (spread_Turns_sp (F_spread_Turns d)) := by
  have hm : prog.follows .mixedOrders = true := mixed
  have hT := tys
  have hC0 : OrcOK prog (orc (spread_Turns_tab (spread_Turns_K d))) := orc_ok (by
    intro S hS
    simp only [spread_Turns_tab, List.mem_cons, List.not_mem_nil, or_false] at hS
    rcases hS with rfl | rfl
    · exact spread_check_cok d
    · exact spread_all_cok d)
  have hC : OrcOK prog (orc (spread_Turns_tab (spread_Turns_K d))) := hC0
  refine cok_of (c := bodyOf f8) (fn := f8) hT (by kernel_rfl) (by kernel_rfl) (by decide) fun x r h w0 φ0 Q hend => ?_
  replace h : F_spread_Turns d x = some r := h
  unfold F_spread_Turns at h
  show Run prog w0 φ0 36 (bodyOf f8) ⟨[(0, .agg [.fz Riii x.1.1]), (1, .agg [.int .i64 x.2.1.1, .int .i64 x.2.1.2.1]), (2, .agg [.int .i64 x.2.2.1.1, .int .i64 x.2.2.1.2.1])], []⟩ Q
  refine run_seq ?_
  refine run_reg hm hT hC (spread_Turns_g0 (spread_Turns_K d) (x.1.1, x.2.1.1, x.2.1.2.1, x.2.2.1.1, x.2.2.1.2.1)) h ?_
  intro y0 h
  refine cn_then ?_
  refine run_seq ?_
  refine run_seq ?_
  refine run_reg hm hT hC (spread_Turns_g1 (spread_Turns_K d) y0) h ?_
  intro y1 h
  refine cn_then ?_
  refine run_seq ?_
  refine run_reg hm hT hC (spread_Turns_g2 (spread_Turns_K d) y1) h ?_
  intro y2 h
  refine cn_then ?_
  refine run_cond (v := y2.2.1) (by kernel_rfl) h ?_ ?_
  ·
    intro h
    refine run_seq ?_
    refine run_reg hm hT hC (spread_Turns_g3 (spread_Turns_K d) y2) h ?_
    intro y3 h
    refine cn_then ?_
    refine run_ret ?_
    refine cn_then_ret ?_
    cases h
    exact (hend _ (by kernel_rfl)).2
  ·
    intro h
    refine run_skip ?_
    refine cn_then ?_
    refine run_seq ?_
    refine run_reg hm hT hC (spread_Turns_g4 (spread_Turns_K d) y2) h ?_
    intro y4 h
    refine cn_then ?_
    refine run_seq ?_
    refine run_seq ?_
    refine run_reg hm hT hC (spread_Turns_g5 (spread_Turns_K d) y4) h ?_
    intro y5 h
    refine cn_then ?_
    refine run_block ?_
    refine run_loop (G := iter (spread_Turns_L1 d )) (S := (fun x1 => ⟨[(9, .rs 0), (23, .fz Riii x1.1), (24, .int .i64 x1.2.1), (25, .int .i64 x1.2.2.1)], [.rows Rii x1.2.2.2]⟩ : List Diii × Int × Int × List Dii → St)) (fun _ => rfl) ?_ d _ h
    intro n1 x1 h K1 hn1
    replace h : spread_Turns_L1 d  (iter (spread_Turns_L1 d ) n1) x1 = some r := h
    generalize iter (spread_Turns_L1 d ) n1 = self1 at h hn1
    unfold spread_Turns_L1 at h
    refine run_seq ?_
    refine run_reg hm hT hC (spread_Turns_g6 (spread_Turns_K d) x1) h ?_
    intro y6 h
    refine cn_then ?_
    refine run_seq ?_
    refine run_cond (v := y6.2.2.2.1) (by kernel_rfl) h ?_ ?_
    ·
      intro h
      refine run_skip ?_
      refine cn_then ?_
      refine run_seq ?_
      refine run_block ?_
      refine run_seq ?_
      refine run_reg hm hT hC (spread_Turns_g7 (spread_Turns_K d) y6) h ?_
      intro y7 h
      refine cn_then ?_
      refine run_reg hm hT hC (spread_Turns_g8 (spread_Turns_K d) y7) h ?_
      intro y8 h
      refine cn_blk ?_
      refine cn_then ?_
      refine run_reg hm hT hC (spread_Turns_g9 (spread_Turns_K d) y8) h ?_
      intro y9 h
      exact hn1 _ h
    ·
      intro h
      refine run_exit ?_
      refine cn_then_exit ?_
      refine cn_then_exit ?_
      refine cn_blk_eq ?_
      refine cn_then ?_
      refine run_seq ?_
      refine run_reg hm hT hC (spread_Turns_g10 (spread_Turns_K d) y6) h ?_
      intro y10 h
      refine cn_then ?_
      refine run_ret ?_
      cases h
      exact (hend _ (by kernel_rfl)).2
abbrev spread_Least_1_ps : List Pk := [.row Riii true, .ref Ri]
abbrev spread_Least_1_X : Type := Diii × Di × Unit
abbrev spread_Least_1_R : Type := Bool
def spread_Least_1_enc (r : spread_Least_1_R) : LV × List Ob := (.bool r, [])
def spread_Least_1_sp (F : spread_Least_1_X → Option spread_Least_1_R) : Go.Tx.Spec := ⟨17, spread_Least_1_ps, spread_Least_1_R, F, spread_Least_1_enc⟩
abbrev spread_Least_1_C : Type := Unit
def spread_Least_1_K (_d : Nat) : spread_Least_1_C := ()
def spread_Least_1_tab (C : spread_Least_1_C) : List Go.Tx.Spec := []
abbrev spread_Least_1_Y0i : Type := Int × Int × Int × Di
def spread_Least_1_S0i (v : spread_Least_1_Y0i) : St := ⟨[(0, .agg [.int .i64 v.1, .int .i64 v.2.1, .int .i64 v.2.2.1]), (1, .fp Ri v.2.2.2 0)], []⟩
abbrev spread_Least_1_Y0 : Type := Di × Int × Int × Int
def spread_Least_1_S0 (v : spread_Least_1_Y0) : St := ⟨[(1, .fp Ri v.1 0), (2, .ptr 0 0)], [.cells [.int .i64 v.2.1, .int .i64 v.2.2.1, .int .i64 v.2.2.2]]⟩
def spread_Least_1_r0 (C : spread_Least_1_C) (v : spread_Least_1_Y0i) : Dt spread_Least_1_Y0 := (Dt.ret (v.2.2.2, v.1, v.2.1, v.2.2.1))
theorem spread_Least_1_g0 (C : spread_Least_1_C) (v : spread_Least_1_Y0i) : treg tysT (orc (spread_Least_1_tab C)) 8 (regO (bodyOf f17) 0) false [(1, .any), (2, .any)] (spread_Least_1_S0i v) some = (spread_Least_1_r0 C v).eval fun y => some (spread_Least_1_S0 y) := by kernel_rfl
abbrev spread_Least_1_Y1 : Type := Bool
def spread_Least_1_S1 (v : spread_Least_1_Y1) : St := ⟨[(3, .bool v)], []⟩
def spread_Least_1_r1 (C : spread_Least_1_C) (v : spread_Least_1_Y0) : Dt spread_Least_1_Y1 := (Dt.ret (decide (v.2.2.2 ≥ v.1.1)))
theorem spread_Least_1_g1 (C : spread_Least_1_C) (v : spread_Least_1_Y0) : treg tysT (orc (spread_Least_1_tab C)) 8 (regO (bodyOf f17) 1) false [(3, .any)] (spread_Least_1_S0 v) some = (spread_Least_1_r1 C v).eval fun y => some (spread_Least_1_S1 y) := by kernel_rfl
def F_spread_Least_1 (d : Nat) (x : spread_Least_1_X) : Option spread_Least_1_R :=
  (spread_Least_1_r0 (spread_Least_1_K d) (x.1.1, x.1.2.1, x.1.2.2.1, x.2.1)).eval fun y0 =>
  (spread_Least_1_r1 (spread_Least_1_K d) y0).eval fun y1 =>
  some y1
theorem spread_Least_1_cok (d : Nat) : COK prog (spread_Least_1_sp (F_spread_Least_1 d)) := by
  have hm : prog.follows .mixedOrders = true := mixed
  have hT := tys
  have hC0 : OrcOK prog (orc (spread_Least_1_tab (spread_Least_1_K d))) := orc_ok (by
    intro S hS
    simp only [spread_Least_1_tab, List.mem_cons, List.not_mem_nil, or_false] at hS
    all_goals first | cases hS | exact hS.elim)
  have hC : OrcOK prog (orc (spread_Least_1_tab (spread_Least_1_K d))) := hC0
  refine cok_of (c := bodyOf f17) (fn := f17) hT (by kernel_rfl) (by kernel_rfl) (by decide) fun x r h w0 φ0 Q hend => ?_
  replace h : F_spread_Least_1 d x = some r := h
  unfold F_spread_Least_1 at h
  show Run prog w0 φ0 8 (bodyOf f17) ⟨[(0, .agg [.int .i64 x.1.1, .int .i64 x.1.2.1, .int .i64 x.1.2.2.1]), (1, .fp Ri x.2.1 0)], []⟩ Q
  refine run_seq ?_
  refine run_reg hm hT hC (spread_Least_1_g0 (spread_Least_1_K d) (x.1.1, x.1.2.1, x.1.2.2.1, x.2.1)) h ?_
  intro y0 h
  refine cn_then ?_
  refine run_seq ?_
  refine run_reg hm hT hC (spread_Least_1_g1 (spread_Least_1_K d) y0) h ?_
  intro y1 h
  refine cn_then ?_
  refine run_ret ?_
  cases h
  exact (hend _ (by kernel_rfl)).2
abbrev slices_IndexFunc_spread_turn_spread_turn_at_spread_Least_1_ps : List Pk := [.row RLiiiE false, .fn 17 [Ri]]
abbrev slices_IndexFunc_spread_turn_spread_turn_at_spread_Least_1_X : Type := DLiiiE × (Di × Unit) × Unit
abbrev slices_IndexFunc_spread_turn_spread_turn_at_spread_Least_1_R : Type := Int
def slices_IndexFunc_spread_turn_spread_turn_at_spread_Least_1_enc (r : slices_IndexFunc_spread_turn_spread_turn_at_spread_Least_1_R) : LV × List Ob := (.int .i64 r, [])
def slices_IndexFunc_spread_turn_spread_turn_at_spread_Least_1_sp (F : slices_IndexFunc_spread_turn_spread_turn_at_spread_Least_1_X → Option slices_IndexFunc_spread_turn_spread_turn_at_spread_Least_1_R) : Go.Tx.Spec := ⟨18, slices_IndexFunc_spread_turn_spread_turn_at_spread_Least_1_ps, slices_IndexFunc_spread_turn_spread_turn_at_spread_Least_1_R, F, slices_IndexFunc_spread_turn_spread_turn_at_spread_Least_1_enc⟩
abbrev slices_IndexFunc_spread_turn_spread_turn_at_spread_Least_1_C : Type := (spread_Least_1_X → Option spread_Least_1_R) × Unit
def slices_IndexFunc_spread_turn_spread_turn_at_spread_Least_1_K (d : Nat) : slices_IndexFunc_spread_turn_spread_turn_at_spread_Least_1_C := (F_spread_Least_1 d, ())
def slices_IndexFunc_spread_turn_spread_turn_at_spread_Least_1_tab (C : slices_IndexFunc_spread_turn_spread_turn_at_spread_Least_1_C) : List Go.Tx.Spec := [spread_Least_1_sp C.1]
abbrev slices_IndexFunc_spread_turn_spread_turn_at_spread_Least_1_Y0i : Type := List Diii × Di
def slices_IndexFunc_spread_turn_spread_turn_at_spread_Least_1_S0i (v : slices_IndexFunc_spread_turn_spread_turn_at_spread_Least_1_Y0i) : St := ⟨[(0, .fz Riii v.1), (1, .fn 17 [.fp Ri v.2 0])], []⟩
def slices_IndexFunc_spread_turn_spread_turn_at_spread_Least_1_r0 (C : slices_IndexFunc_spread_turn_spread_turn_at_spread_Least_1_C) (v : slices_IndexFunc_spread_turn_spread_turn_at_spread_Least_1_Y0i) : Dt slices_IndexFunc_spread_turn_spread_turn_at_spread_Least_1_Y0i := (Dt.ret (v.1, v.2))
theorem slices_IndexFunc_spread_turn_spread_turn_at_spread_Least_1_g0 (C : slices_IndexFunc_spread_turn_spread_turn_at_spread_Least_1_C) (v : slices_IndexFunc_spread_turn_spread_turn_at_spread_Least_1_Y0i) : treg tysT (orc (slices_IndexFunc_spread_turn_spread_turn_at_spread_Least_1_tab C)) 19 (regO (bodyOf f18) 0) false [(0, (.val Riii)), (1, .any)] (slices_IndexFunc_spread_turn_spread_turn_at_spread_Least_1_S0i v) some = (slices_IndexFunc_spread_turn_spread_turn_at_spread_Least_1_r0 C v).eval fun y => some (slices_IndexFunc_spread_turn_spread_turn_at_spread_Least_1_S0i y) := by kernel_rfl
abbrev slices_IndexFunc_spread_turn_spread_turn_at_spread_Least_1_Y1 : Type := List Diii × Di × Int × Int
def slices_IndexFunc_spread_turn_spread_turn_at_spread_Least_1_S1 (v : slices_IndexFunc_spread_turn_spread_turn_at_spread_Least_1_Y1) : St := ⟨[(0, .fz Riii v.1), (1, .fn 17 [.fp Ri v.2.1 0]), (7, .int .i64 v.2.2.1), (8, .int .i64 v.2.2.2)], []⟩
def slices_IndexFunc_spread_turn_spread_turn_at_spread_Least_1_r1 (C : slices_IndexFunc_spread_turn_spread_turn_at_spread_Least_1_C) (v : slices_IndexFunc_spread_turn_spread_turn_at_spread_Least_1_Y0i) : Dt slices_IndexFunc_spread_turn_spread_turn_at_spread_Least_1_Y1 := (Dt.ret (v.1, v.2, (List.length v.1 : Int), (0:Int)))
theorem slices_IndexFunc_spread_turn_spread_turn_at_spread_Least_1_g1 (C : slices_IndexFunc_spread_turn_spread_turn_at_spread_Least_1_C) (v : slices_IndexFunc_spread_turn_spread_turn_at_spread_Least_1_Y0i) : treg tysT (orc (slices_IndexFunc_spread_turn_spread_turn_at_spread_Least_1_tab C)) 19 (regO (bodyOf f18) 1) false [(0, (.val Riii)), (1, .any), (7, .any), (8, .any)] (slices_IndexFunc_spread_turn_spread_turn_at_spread_Least_1_S0i v) some = (slices_IndexFunc_spread_turn_spread_turn_at_spread_Least_1_r1 C v).eval fun y => some (slices_IndexFunc_spread_turn_spread_turn_at_spread_Least_1_S1 y) := by kernel_rfl
abbrev slices_IndexFunc_spread_turn_spread_turn_at_spread_Least_1_Y2 : Type := List Diii × Di × Int × Int × Bool
def slices_IndexFunc_spread_turn_spread_turn_at_spread_Least_1_S2 (v : slices_IndexFunc_spread_turn_spread_turn_at_spread_Least_1_Y2) : St := ⟨[(0, .fz Riii v.1), (1, .fn 17 [.fp Ri v.2.1 0]), (7, .int .i64 v.2.2.1), (8, .int .i64 v.2.2.2.1), (9, .bool v.2.2.2.2)], []⟩
def slices_IndexFunc_spread_turn_spread_turn_at_spread_Least_1_r2 (C : slices_IndexFunc_spread_turn_spread_turn_at_spread_Least_1_C) (v : slices_IndexFunc_spread_turn_spread_turn_at_spread_Least_1_Y1) : Dt slices_IndexFunc_spread_turn_spread_turn_at_spread_Least_1_Y2 := (Dt.ret (v.1, v.2.1, v.2.2.1, v.2.2.2, (decide (v.2.2.2 < v.2.2.1))))
theorem slices_IndexFunc_spread_turn_spread_turn_at_spread_Least_1_g2 (C : slices_IndexFunc_spread_turn_spread_turn_at_spread_Least_1_C) (v : slices_IndexFunc_spread_turn_spread_turn_at_spread_Least_1_Y1) : treg tysT (orc (slices_IndexFunc_spread_turn_spread_turn_at_spread_Least_1_tab C)) 19 (regO (bodyOf f18) 2) false [(0, (.val Riii)), (1, .any), (7, .any), (8, .any), (9, .any)] (slices_IndexFunc_spread_turn_spread_turn_at_spread_Least_1_S1 v) some = (slices_IndexFunc_spread_turn_spread_turn_at_spread_Least_1_r2 C v).eval fun y => some (slices_IndexFunc_spread_turn_spread_turn_at_spread_Least_1_S2 y) := by kernel_rfl
abbrev slices_IndexFunc_spread_turn_spread_turn_at_spread_Least_1_Y3 : Type := List Diii × Di × Int × Int × Int
def slices_IndexFunc_spread_turn_spread_turn_at_spread_Least_1_S3 (v : slices_IndexFunc_spread_turn_spread_turn_at_spread_Least_1_Y3) : St := ⟨[(0, .fz Riii v.1), (1, .fn 17 [.fp Ri v.2.1 0]), (5, .int .i64 v.2.2.1), (7, .int .i64 v.2.2.2.1), (8, .int .i64 v.2.2.2.2)], []⟩
def slices_IndexFunc_spread_turn_spread_turn_at_spread_Least_1_r3 (C : slices_IndexFunc_spread_turn_spread_turn_at_spread_Least_1_C) (v : slices_IndexFunc_spread_turn_spread_turn_at_spread_Least_1_Y2) : Dt slices_IndexFunc_spread_turn_spread_turn_at_spread_Least_1_Y3 := (Dt.ret (v.1, v.2.1, v.2.2.2.1, v.2.2.1, v.2.2.2.1))
theorem slices_IndexFunc_spread_turn_spread_turn_at_spread_Least_1_g3 (C : slices_IndexFunc_spread_turn_spread_turn_at_spread_Least_1_C) (v : slices_IndexFunc_spread_turn_spread_turn_at_spread_Least_1_Y2) : treg tysT (orc (slices_IndexFunc_spread_turn_spread_turn_at_spread_Least_1_tab C)) 19 (regO (bodyOf f18) 3) false [(0, (.val Riii)), (1, .any), (5, .any), (7, .any), (8, .any)] (slices_IndexFunc_spread_turn_spread_turn_at_spread_Least_1_S2 v) some = (slices_IndexFunc_spread_turn_spread_turn_at_spread_Least_1_r3 C v).eval fun y => some (slices_IndexFunc_spread_turn_spread_turn_at_spread_Least_1_S3 y) := by kernel_rfl
abbrev slices_IndexFunc_spread_turn_spread_turn_at_spread_Least_1_Y4 : Type := List Diii × Di × Int × Int × Int × Bool
def slices_IndexFunc_spread_turn_spread_turn_at_spread_Least_1_S4 (v : slices_IndexFunc_spread_turn_spread_turn_at_spread_Least_1_Y4) : St := ⟨[(0, .fz Riii v.1), (1, .fn 17 [.fp Ri v.2.1 0]), (5, .int .i64 v.2.2.1), (7, .int .i64 v.2.2.2.1), (8, .int .i64 v.2.2.2.2.1), (16, .bool v.2.2.2.2.2)], []⟩
def slices_IndexFunc_spread_turn_spread_turn_at_spread_Least_1_r4 (C : slices_IndexFunc_spread_turn_spread_turn_at_spread_Least_1_C) (v : slices_IndexFunc_spread_turn_spread_turn_at_spread_Least_1_Y3) : Dt slices_IndexFunc_spread_turn_spread_turn_at_spread_Least_1_Y4 := (Dt.ite (inB v.2.2.1 (List.length v.1)) (Dt.bnd (C.1 (((elt ziii v.1 (v.2.2.1).toNat).1, (elt ziii v.1 (v.2.2.1).toNat).2.1, (elt ziii v.1 (v.2.2.1).toNat).2.2.1, ()), v.2.1, ())) fun r1 => (Dt.ret (v.1, v.2.1, v.2.2.1, v.2.2.2.1, v.2.2.2.2, r1))) Dt.fail)
theorem slices_IndexFunc_spread_turn_spread_turn_at_spread_Least_1_g4 (C : slices_IndexFunc_spread_turn_spread_turn_at_spread_Least_1_C) (v : slices_IndexFunc_spread_turn_spread_turn_at_spread_Least_1_Y3) : treg tysT (orc (slices_IndexFunc_spread_turn_spread_turn_at_spread_Least_1_tab C)) 19 (regO (bodyOf f18) 4) false [(0, (.val Riii)), (1, .any), (5, .any), (7, .any), (8, .any), (16, .any)] (slices_IndexFunc_spread_turn_spread_turn_at_spread_Least_1_S3 v) some = (slices_IndexFunc_spread_turn_spread_turn_at_spread_Least_1_r4 C v).eval fun y => some (slices_IndexFunc_spread_turn_spread_turn_at_spread_Least_1_S4 y) := by kernel_rfl
abbrev slices_IndexFunc_spread_turn_spread_turn_at_spread_Least_1_Y5 : Type := Int
def slices_IndexFunc_spread_turn_spread_turn_at_spread_Least_1_S5 (v : slices_IndexFunc_spread_turn_spread_turn_at_spread_Least_1_Y5) : St := ⟨[(4, .int .i64 v)], []⟩
def slices_IndexFunc_spread_turn_spread_turn_at_spread_Least_1_r5 (C : slices_IndexFunc_spread_turn_spread_turn_at_spread_Least_1_C) (v : slices_IndexFunc_spread_turn_spread_turn_at_spread_Least_1_Y4) : Dt slices_IndexFunc_spread_turn_spread_turn_at_spread_Least_1_Y5 := (Dt.ret v.2.2.1)
theorem slices_IndexFunc_spread_turn_spread_turn_at_spread_Least_1_g5 (C : slices_IndexFunc_spread_turn_spread_turn_at_spread_Least_1_C) (v : slices_IndexFunc_spread_turn_spread_turn_at_spread_Least_1_Y4) : treg tysT (orc (slices_IndexFunc_spread_turn_spread_turn_at_spread_Least_1_tab C)) 19 (regO (bodyOf f18) 5) false [(4, .any)] (slices_IndexFunc_spread_turn_spread_turn_at_spread_Least_1_S4 v) some = (slices_IndexFunc_spread_turn_spread_turn_at_spread_Least_1_r5 C v).eval fun y => some (slices_IndexFunc_spread_turn_spread_turn_at_spread_Least_1_S5 y) := by kernel_rfl
def slices_IndexFunc_spread_turn_spread_turn_at_spread_Least_1_r6 (C : slices_IndexFunc_spread_turn_spread_turn_at_spread_Least_1_C) (v : slices_IndexFunc_spread_turn_spread_turn_at_spread_Least_1_Y4) : Dt slices_IndexFunc_spread_turn_spread_turn_at_spread_Least_1_Y1 := (Dt.ret (v.1, v.2.1, v.2.2.2.1, (IntKind.wrap .i64 (v.2.2.2.2.1 + (1:Int)))))
theorem slices_IndexFunc_spread_turn_spread_turn_at_spread_Least_1_g6 (C : slices_IndexFunc_spread_turn_spread_turn_at_spread_Least_1_C) (v : slices_IndexFunc_spread_turn_spread_turn_at_spread_Least_1_Y4) : treg tysT (orc (slices_IndexFunc_spread_turn_spread_turn_at_spread_Least_1_tab C)) 19 (regO (bodyOf f18) 6) false [(0, (.val Riii)), (1, .any), (7, .any), (8, .any)] (slices_IndexFunc_spread_turn_spread_turn_at_spread_Least_1_S4 v) some = (slices_IndexFunc_spread_turn_spread_turn_at_spread_Least_1_r6 C v).eval fun y => some (slices_IndexFunc_spread_turn_spread_turn_at_spread_Least_1_S1 y) := by kernel_rfl
def slices_IndexFunc_spread_turn_spread_turn_at_spread_Least_1_r7 (C : slices_IndexFunc_spread_turn_spread_turn_at_spread_Least_1_C) (v : slices_IndexFunc_spread_turn_spread_turn_at_spread_Least_1_Y2) : Dt slices_IndexFunc_spread_turn_spread_turn_at_spread_Least_1_Y5 := (Dt.ret (-1:Int))
theorem slices_IndexFunc_spread_turn_spread_turn_at_spread_Least_1_g7 (C : slices_IndexFunc_spread_turn_spread_turn_at_spread_Least_1_C) (v : slices_IndexFunc_spread_turn_spread_turn_at_spread_Least_1_Y2) : treg tysT (orc (slices_IndexFunc_spread_turn_spread_turn_at_spread_Least_1_tab C)) 19 (regO (bodyOf f18) 7) false [(4, .any)] (slices_IndexFunc_spread_turn_spread_turn_at_spread_Least_1_S2 v) some = (slices_IndexFunc_spread_turn_spread_turn_at_spread_Least_1_r7 C v).eval fun y => some (slices_IndexFunc_spread_turn_spread_turn_at_spread_Least_1_S5 y) := by kernel_rfl
def slices_IndexFunc_spread_turn_spread_turn_at_spread_Least_1_L1 (d : Nat) (self1 : (List Diii × Di × Int × Int) → Option slices_IndexFunc_spread_turn_spread_turn_at_spread_Least_1_R) (x1 : List Diii × Di × Int × Int) : Option slices_IndexFunc_spread_turn_spread_turn_at_spread_Least_1_R :=
  (slices_IndexFunc_spread_turn_spread_turn_at_spread_Least_1_r2 (slices_IndexFunc_spread_turn_spread_turn_at_spread_Least_1_K d) x1).eval fun y2 =>
  bif y2.2.2.2.2 then ((slices_IndexFunc_spread_turn_spread_turn_at_spread_Least_1_r3 (slices_IndexFunc_spread_turn_spread_turn_at_spread_Least_1_K d) y2).eval fun y3 =>
  (slices_IndexFunc_spread_turn_spread_turn_at_spread_Least_1_r4 (slices_IndexFunc_spread_turn_spread_turn_at_spread_Least_1_K d) y3).eval fun y4 =>
  bif y4.2.2.2.2.2 then ((slices_IndexFunc_spread_turn_spread_turn_at_spread_Least_1_r5 (slices_IndexFunc_spread_turn_spread_turn_at_spread_Least_1_K d) y4).eval fun y5 =>
  some y5) else ((slices_IndexFunc_spread_turn_spread_turn_at_spread_Least_1_r6 (slices_IndexFunc_spread_turn_spread_turn_at_spread_Least_1_K d) y4).eval fun y6 =>
  self1 y6)) else ((slices_IndexFunc_spread_turn_spread_turn_at_spread_Least_1_r7 (slices_IndexFunc_spread_turn_spread_turn_at_spread_Least_1_K d) y2).eval fun y7 =>
  some y7)
def F_slices_IndexFunc_spread_turn_spread_turn_at_spread_Least_1 (d : Nat) (x : slices_IndexFunc_spread_turn_spread_turn_at_spread_Least_1_X) : Option slices_IndexFunc_spread_turn_spread_turn_at_spread_Least_1_R :=
  (slices_IndexFunc_spread_turn_spread_turn_at_spread_Least_1_r0 (slices_IndexFunc_spread_turn_spread_turn_at_spread_Least_1_K d) (x.1.1, x.2.1.1)).eval fun y0 =>
  (slices_IndexFunc_spread_turn_spread_turn_at_spread_Least_1_r1 (slices_IndexFunc_spread_turn_spread_turn_at_spread_Least_1_K d) y0).eval fun y1 =>
  iter (slices_IndexFunc_spread_turn_spread_turn_at_spread_Least_1_L1 d ) d y1
theorem slices_IndexFunc_spread_turn_spread_turn_at_spread_Least_1_cok (d : Nat) : COK prog (slices_IndexFunc_spread_turn_spread_turn_at_spread_Least_1_sp (F_slices_IndexFunc_spread_turn_spread_turn_at_spread_Least_1 d)) := by
  have hm : prog.follows .mixedOrders = true := mixed
  have hT := tys
  have hC0 : OrcOK prog (orc (slices_IndexFunc_spread_turn_spread_turn_at_spread_Least_1_tab (slices_IndexFunc_spread_turn_spread_turn_at_spread_Least_1_K d))) := orc_ok (by
    intro S hS
    simp only [slices_IndexFunc_spread_turn_spread_turn_at_spread_Least_1_tab, List.mem_cons, List.not_mem_nil, or_false] at hS
    subst hS; exact spread_Least_1_cok d)
  have hC : OrcOK prog (orc (slices_IndexFunc_spread_turn_spread_turn_at_spread_Least_1_tab (slices_IndexFunc_spread_turn_spread_turn_at_spread_Least_1_K d))) := hC0
  refine cok_of (c := bodyOf f18) (fn := f18) hT (by kernel_rfl) (by kernel_rfl) (by decide) fun x r h w0 φ0 Q hend => ?_
  replace h : F_slices_IndexFunc_spread_turn_spread_turn_at_spread_Least_1 d x = some r := h
  unfold F_slices_IndexFunc_spread_turn_spread_turn_at_spread_Least_1 at h
  show Run prog w0 φ0 19 (bodyOf f18) ⟨[(0, .fz Riii x.1.1), (1, .fn 17 [.fp Ri x.2.1.1 0])], []⟩ Q
  refine run_seq ?_
  refine run_reg hm hT hC (slices_IndexFunc_spread_turn_spread_turn_at_spread_Least_1_g0 (slices_IndexFunc_spread_turn_spread_turn_at_spread_Least_1_K d) (x.1.1, x.2.1.1)) h ?_
  intro y0 h
  refine cn_then ?_
  refine run_seq ?_
  refine run_seq ?_
  refine run_reg hm hT hC (slices_IndexFunc_spread_turn_spread_turn_at_spread_Least_1_g1 (slices_IndexFunc_spread_turn_spread_turn_at_spread_Least_1_K d) y0) h ?_
  intro y1 h
  refine cn_then ?_
  refine run_block ?_
  refine run_loop (G := iter (slices_IndexFunc_spread_turn_spread_turn_at_spread_Least_1_L1 d )) (S := (fun x1 => ⟨[(0, .fz Riii x1.1), (1, .fn 17 [.fp Ri x1.2.1 0]), (7, .int .i64 x1.2.2.1), (8, .int .i64 x1.2.2.2)], []⟩ : List Diii × Di × Int × Int → St)) (fun _ => rfl) ?_ d _ h
  intro n1 x1 h K1 hn1
  replace h : slices_IndexFunc_spread_turn_spread_turn_at_spread_Least_1_L1 d  (iter (slices_IndexFunc_spread_turn_spread_turn_at_spread_Least_1_L1 d ) n1) x1 = some r := h
  generalize iter (slices_IndexFunc_spread_turn_spread_turn_at_spread_Least_1_L1 d ) n1 = self1 at h hn1
  unfold slices_IndexFunc_spread_turn_spread_turn_at_spread_Least_1_L1 at h
  refine run_seq ?_
  refine run_reg hm hT hC (slices_IndexFunc_spread_turn_spread_turn_at_spread_Least_1_g2 (slices_IndexFunc_spread_turn_spread_turn_at_spread_Least_1_K d) x1) h ?_
  intro y2 h
  refine cn_then ?_
  refine run_seq ?_
  refine run_cond (v := y2.2.2.2.2) (by kernel_rfl) h ?_ ?_
  ·
    intro h
    refine run_skip ?_
    refine cn_then ?_
    refine run_seq ?_
    refine run_block ?_
    refine run_seq ?_
    refine run_reg hm hT hC (slices_IndexFunc_spread_turn_spread_turn_at_spread_Least_1_g3 (slices_IndexFunc_spread_turn_spread_turn_at_spread_Least_1_K d) y2) h ?_
    intro y3 h
    refine cn_then ?_
    refine run_seq ?_
    refine run_reg hm hT hC (slices_IndexFunc_spread_turn_spread_turn_at_spread_Least_1_g4 (slices_IndexFunc_spread_turn_spread_turn_at_spread_Least_1_K d) y3) h ?_
    intro y4 h
    refine cn_then ?_
    refine run_cond (v := y4.2.2.2.2.2) (by kernel_rfl) h ?_ ?_
    ·
      intro h
      refine run_seq ?_
      refine run_reg hm hT hC (slices_IndexFunc_spread_turn_spread_turn_at_spread_Least_1_g5 (slices_IndexFunc_spread_turn_spread_turn_at_spread_Least_1_K d) y4) h ?_
      intro y5 h
      refine cn_then ?_
      refine run_ret ?_
      refine cn_blk_ret ?_
      refine cn_then_ret ?_
      refine cn_then_ret ?_
      refine cn_blk_ret ?_
      refine cn_then_ret ?_
      cases h
      exact (hend _ (by kernel_rfl)).2
    ·
      intro h
      refine run_skip ?_
      refine cn_blk ?_
      refine cn_then ?_
      refine run_reg hm hT hC (slices_IndexFunc_spread_turn_spread_turn_at_spread_Least_1_g6 (slices_IndexFunc_spread_turn_spread_turn_at_spread_Least_1_K d) y4) h ?_
      intro y6 h
      exact hn1 _ h
  ·
    intro h
    refine run_exit ?_
    refine cn_then_exit ?_
    refine cn_then_exit ?_
    refine cn_blk_eq ?_
    refine cn_then ?_
    refine run_seq ?_
    refine run_reg hm hT hC (slices_IndexFunc_spread_turn_spread_turn_at_spread_Least_1_g7 (slices_IndexFunc_spread_turn_spread_turn_at_spread_Least_1_K d) y2) h ?_
    intro y7 h
    refine cn_then ?_
    refine run_ret ?_
    cases h
    exact (hend _ (by kernel_rfl)).2
abbrev spread_Least_ps : List Pk := [.row RLiiiE true, .row Rii true, .row Rii true]
abbrev spread_Least_X : Type := DLiiiE × Dii × Dii × Unit
abbrev spread_Least_R : Type := Int × Int × Int × Int × Int
def spread_Least_enc (r : spread_Least_R) : LV × List Ob := (.tup [.agg [.int .i64 r.1, .int .i64 r.2.1], .agg [.int .i64 r.2.2.1, .int .i64 r.2.2.2.1], .int .i64 r.2.2.2.2], [])
def spread_Least_sp (F : spread_Least_X → Option spread_Least_R) : Go.Tx.Spec := ⟨9, spread_Least_ps, spread_Least_R, F, spread_Least_enc⟩
abbrev spread_Least_C : Type := (spread_At_X → Option spread_At_R) × (spread_check_X → Option spread_check_R) × (spread_all_X → Option spread_all_R) × (slices_IndexFunc_spread_turn_spread_turn_at_spread_Least_1_X → Option slices_IndexFunc_spread_turn_spread_turn_at_spread_Least_1_R) × Unit
def spread_Least_K (d : Nat) : spread_Least_C := (F_spread_At d, F_spread_check d, F_spread_all d, F_slices_IndexFunc_spread_turn_spread_turn_at_spread_Least_1 d, ())
def spread_Least_tab (C : spread_Least_C) : List Go.Tx.Spec := [spread_At_sp C.1, spread_check_sp C.2.1, spread_all_sp C.2.2.1, slices_IndexFunc_spread_turn_spread_turn_at_spread_Least_1_sp C.2.2.2.1]
abbrev spread_Least_Y0i : Type := List Diii × Int × Int × Int × Int
def spread_Least_S0i (v : spread_Least_Y0i) : St := ⟨[(0, .agg [.fz Riii v.1]), (1, .agg [.int .i64 v.2.1, .int .i64 v.2.2.1]), (2, .agg [.int .i64 v.2.2.2.1, .int .i64 v.2.2.2.2])], []⟩
abbrev spread_Least_Y0 : Type := List Diii × Int × Int × Int × Int × Int × Int × Int × Int
def spread_Least_S0 (v : spread_Least_Y0) : St := ⟨[(3, .ptr 0 0), (4, .ptr 1 0), (5, .ptr 2 0), (6, .ptr 3 0), (7, .ptr 4 0)], [.cells [.fz Riii v.1], .cells [.int .i64 v.2.1, .int .i64 v.2.2.1], .cells [.int .i64 v.2.2.2.1, .int .i64 v.2.2.2.2.1], .cells [.int .i64 v.2.2.2.2.2.1, .int .i64 v.2.2.2.2.2.2.1], .cells [.int .i64 v.2.2.2.2.2.2.2.1, .int .i64 v.2.2.2.2.2.2.2.2]]⟩
def spread_Least_r0 (C : spread_Least_C) (v : spread_Least_Y0i) : Dt spread_Least_Y0 := (Dt.ret (v.1, v.2.1, v.2.2.1, v.2.2.2.1, v.2.2.2.2, (0:Int), (0:Int), (0:Int), (0:Int)))
theorem spread_Least_g0 (C : spread_Least_C) (v : spread_Least_Y0i) : treg tysT (orc (spread_Least_tab C)) 56 (regO (bodyOf f9) 0) false [(3, (.box [.val Riii])), (4, .any), (5, .any), (6, .any), (7, .any)] (spread_Least_S0i v) some = (spread_Least_r0 C v).eval fun y => some (spread_Least_S0 y) := by kernel_rfl
abbrev spread_Least_Y1 : Type := Int × List Diii × Int × Int × Int × Int × Int × Int × Int × Int
def spread_Least_S1 (v : spread_Least_Y1) : St := ⟨[(3, .ptr 0 0), (4, .ptr 1 0), (5, .ptr 2 0), (6, .ptr 3 0), (7, .ptr 4 0), (9, .int .i64 v.1)], [.cells [.fz Riii v.2.1], .cells [.int .i64 v.2.2.1, .int .i64 v.2.2.2.1], .cells [.int .i64 v.2.2.2.2.1, .int .i64 v.2.2.2.2.2.1], .cells [.int .i64 v.2.2.2.2.2.2.1, .int .i64 v.2.2.2.2.2.2.2.1], .cells [.int .i64 v.2.2.2.2.2.2.2.2.1, .int .i64 v.2.2.2.2.2.2.2.2.2]]⟩
def spread_Least_r1 (C : spread_Least_C) (v : spread_Least_Y0) : Dt spread_Least_Y1 := (Dt.bnd (C.2.1 ((v.1, ()), (v.2.1, v.2.2.1, ()), (v.2.2.2.1, v.2.2.2.2.1, ()), ())) fun r1 => (Dt.ret (r1, v.1, v.2.1, v.2.2.1, v.2.2.2.1, v.2.2.2.2.1, v.2.2.2.2.2.1, v.2.2.2.2.2.2.1, v.2.2.2.2.2.2.2.1, v.2.2.2.2.2.2.2.2)))
theorem spread_Least_g1 (C : spread_Least_C) (v : spread_Least_Y0) : treg tysT (orc (spread_Least_tab C)) 56 (regO (bodyOf f9) 1) false [(3, (.box [.val Riii])), (4, .any), (5, .any), (6, .any), (7, .any), (9, .any)] (spread_Least_S0 v) some = (spread_Least_r1 C v).eval fun y => some (spread_Least_S1 y) := by kernel_rfl
abbrev spread_Least_Y2 : Type := Int × Bool × List Diii × Int × Int × Int × Int × Int × Int × Int × Int
def spread_Least_S2 (v : spread_Least_Y2) : St := ⟨[(3, .ptr 0 0), (4, .ptr 1 0), (5, .ptr 2 0), (6, .ptr 3 0), (7, .ptr 4 0), (9, .int .i64 v.1), (21, .bool v.2.1)], [.cells [.fz Riii v.2.2.1], .cells [.int .i64 v.2.2.2.1, .int .i64 v.2.2.2.2.1], .cells [.int .i64 v.2.2.2.2.2.1, .int .i64 v.2.2.2.2.2.2.1], .cells [.int .i64 v.2.2.2.2.2.2.2.1, .int .i64 v.2.2.2.2.2.2.2.2.1], .cells [.int .i64 v.2.2.2.2.2.2.2.2.2.1, .int .i64 v.2.2.2.2.2.2.2.2.2.2]]⟩
def spread_Least_r2 (C : spread_Least_C) (v : spread_Least_Y1) : Dt spread_Least_Y2 := (Dt.ret (v.1, (v.1 != (0:Int)), v.2.1, v.2.2.1, v.2.2.2.1, v.2.2.2.2.1, v.2.2.2.2.2.1, v.2.2.2.2.2.2.1, v.2.2.2.2.2.2.2.1, v.2.2.2.2.2.2.2.2.1, v.2.2.2.2.2.2.2.2.2))
theorem spread_Least_g2 (C : spread_Least_C) (v : spread_Least_Y1) : treg tysT (orc (spread_Least_tab C)) 56 (regO (bodyOf f9) 2) false [(3, (.box [.val Riii])), (4, .any), (5, .any), (6, .any), (7, .any), (9, .any), (21, .any)] (spread_Least_S1 v) some = (spread_Least_r2 C v).eval fun y => some (spread_Least_S2 y) := by kernel_rfl
abbrev spread_Least_Y3 : Type := Int × Int × Int × Int × Int
def spread_Least_S3 (v : spread_Least_Y3) : St := ⟨[(6, .ptr 0 0), (7, .ptr 1 0), (8, .int .i64 v.1)], [.cells [.int .i64 v.2.1, .int .i64 v.2.2.1], .cells [.int .i64 v.2.2.2.1, .int .i64 v.2.2.2.2]]⟩
def spread_Least_r3 (C : spread_Least_C) (v : spread_Least_Y2) : Dt spread_Least_Y3 := (Dt.ret (v.1, v.2.2.2.2.2.2.2.1, v.2.2.2.2.2.2.2.2.1, v.2.2.2.2.2.2.2.2.2.1, v.2.2.2.2.2.2.2.2.2.2))
theorem spread_Least_g3 (C : spread_Least_C) (v : spread_Least_Y2) : treg tysT (orc (spread_Least_tab C)) 56 (regO (bodyOf f9) 3) true [(6, .any), (7, .any), (8, .any)] (spread_Least_S2 v) some = (spread_Least_r3 C v).eval fun y => some (spread_Least_S3 y) := by kernel_rfl
abbrev spread_Least_Y4 : Type := List Diii × Int × Int × Int × Int × Int × Int × Int × Int × Int
def spread_Least_S4 (v : spread_Least_Y4) : St := ⟨[(3, .ptr 0 0), (4, .ptr 1 0), (5, .ptr 2 0), (6, .ptr 3 0), (7, .ptr 4 0), (10, .ptr 5 0)], [.cells [.fz Riii v.1], .cells [.int .i64 v.2.1, .int .i64 v.2.2.1], .cells [.int .i64 v.2.2.2.1, .int .i64 v.2.2.2.2.1], .cells [.int .i64 v.2.2.2.2.2.1, .int .i64 v.2.2.2.2.2.2.1], .cells [.int .i64 v.2.2.2.2.2.2.2.1, .int .i64 v.2.2.2.2.2.2.2.2.1], .cells [.int .i64 v.2.2.2.2.2.2.2.2.2]]⟩
def spread_Least_r4 (C : spread_Least_C) (v : spread_Least_Y2) : Dt spread_Least_Y4 := (Dt.ret (v.2.2.1, v.2.2.2.1, v.2.2.2.2.1, v.2.2.2.2.2.1, v.2.2.2.2.2.2.1, v.2.2.2.2.2.2.2.1, v.2.2.2.2.2.2.2.2.1, v.2.2.2.2.2.2.2.2.2.1, v.2.2.2.2.2.2.2.2.2.2, (0:Int)))
theorem spread_Least_g4 (C : spread_Least_C) (v : spread_Least_Y2) : treg tysT (orc (spread_Least_tab C)) 56 (regO (bodyOf f9) 4) false [(3, (.box [.val Riii])), (4, .any), (5, .any), (6, .any), (7, .any), (10, .any)] (spread_Least_S2 v) some = (spread_Least_r4 C v).eval fun y => some (spread_Least_S4 y) := by kernel_rfl
abbrev spread_Least_Y5 : Type := List Diii × Int × Int × Int × Int × Int × Int × Int × Int × Int
def spread_Least_S5 (v : spread_Least_Y5) : St := ⟨[(3, .ptr 0 0), (4, .ptr 1 0), (5, .ptr 2 0), (6, .ptr 3 0), (7, .ptr 4 0), (11, .ptr 5 0)], [.cells [.fz Riii v.1], .cells [.int .i64 v.2.1, .int .i64 v.2.2.1], .cells [.int .i64 v.2.2.2.1, .int .i64 v.2.2.2.2.1], .cells [.int .i64 v.2.2.2.2.2.1, .int .i64 v.2.2.2.2.2.2.1], .cells [.int .i64 v.2.2.2.2.2.2.2.1, .int .i64 v.2.2.2.2.2.2.2.2.1], .cells [.fn 17 [.ptr 6 0]], .cells [.int .i64 v.2.2.2.2.2.2.2.2.2]]⟩
def spread_Least_r5 (C : spread_Least_C) (v : spread_Least_Y4) : Dt spread_Least_Y5 := (Dt.ret (v.1, v.2.1, v.2.2.1, v.2.2.2.1, v.2.2.2.2.1, v.2.2.2.2.2.1, v.2.2.2.2.2.2.1, v.2.2.2.2.2.2.2.1, v.2.2.2.2.2.2.2.2.1, v.2.2.2.2.2.2.2.2.2))
theorem spread_Least_g5 (C : spread_Least_C) (v : spread_Least_Y4) : treg tysT (orc (spread_Least_tab C)) 56 (regO (bodyOf f9) 5) false [(3, (.box [.val Riii])), (4, .any), (5, .any), (6, .any), (7, .any), (11, .any)] (spread_Least_S4 v) some = (spread_Least_r5 C v).eval fun y => some (spread_Least_S5 y) := by kernel_rfl
abbrev spread_Least_Y6 : Type := List Diii × Int × Int × Int × Int × Int × Int × Int × List Diii
def spread_Least_S6 (v : spread_Least_Y6) : St := ⟨[(3, .ptr 0 0), (5, .ptr 1 0), (6, .ptr 2 0), (7, .ptr 3 0), (11, .ptr 4 0), (12, .rs 6)], [.cells [.fz Riii v.1], .cells [.int .i64 v.2.1, .int .i64 v.2.2.1], .cells [.int .i64 v.2.2.2.1, .int .i64 v.2.2.2.2.1], .cells [.int .i64 v.2.2.2.2.2.1, .int .i64 v.2.2.2.2.2.2.1], .cells [.fn 17 [.ptr 5 0]], .cells [.int .i64 v.2.2.2.2.2.2.2.1], .rows Riii v.2.2.2.2.2.2.2.2]⟩
def spread_Least_r6 (C : spread_Least_C) (v : spread_Least_Y5) : Dt spread_Least_Y6 := (Dt.bnd (C.2.2.1 ((v.1, ()), (v.2.1, v.2.2.1, ()), (v.2.2.2.1, v.2.2.2.2.1, ()), ())) fun r1 => (Dt.ret (v.1, v.2.2.2.1, v.2.2.2.2.1, v.2.2.2.2.2.1, v.2.2.2.2.2.2.1, v.2.2.2.2.2.2.2.1, v.2.2.2.2.2.2.2.2.1, v.2.2.2.2.2.2.2.2.2, r1)))
theorem spread_Least_g6 (C : spread_Least_C) (v : spread_Least_Y5) : treg tysT (orc (spread_Least_tab C)) 56 (regO (bodyOf f9) 6) false [(3, (.box [.val Riii])), (5, .any), (6, .any), (7, .any), (11, .any), (12, (.own Riii))] (spread_Least_S5 v) some = (spread_Least_r6 C v).eval fun y => some (spread_Least_S6 y) := by kernel_rfl
abbrev spread_Least_Y7 : Type := List Diii × Int × Int × Int × Int × Int × List Diii × Int × Int
def spread_Least_S7 (v : spread_Least_Y7) : St := ⟨[(3, .ptr 0 0), (6, .ptr 1 0), (7, .ptr 2 0), (11, .ptr 3 0), (12, .rs 5), (13, .ptr 6 0)], [.cells [.fz Riii v.1], .cells [.int .i64 v.2.1, .int .i64 v.2.2.1], .cells [.int .i64 v.2.2.2.1, .int .i64 v.2.2.2.2.1], .cells [.fn 17 [.ptr 4 0]], .cells [.int .i64 v.2.2.2.2.2.1], .rows Riii v.2.2.2.2.2.2.1, .cells [.int .i64 v.2.2.2.2.2.2.2.1, .int .i64 v.2.2.2.2.2.2.2.2]]⟩
def spread_Least_r7 (C : spread_Least_C) (v : spread_Least_Y6) : Dt spread_Least_Y7 := (Dt.ret (v.1, v.2.2.2.1, v.2.2.2.2.1, v.2.2.2.2.2.1, v.2.2.2.2.2.2.1, v.2.2.2.2.2.2.2.1, v.2.2.2.2.2.2.2.2, v.2.1, v.2.2.1))
theorem spread_Least_g7 (C : spread_Least_C) (v : spread_Least_Y6) : treg tysT (orc (spread_Least_tab C)) 56 (regO (bodyOf f9) 7) false [(3, (.box [.val Riii])), (6, .any), (7, .any), (11, .any), (12, (.own Riii)), (13, .any)] (spread_Least_S6 v) some = (spread_Least_r7 C v).eval fun y => some (spread_Least_S7 y) := by kernel_rfl
abbrev spread_Least_Y8 : Type := Int × List Diii × Int × Int × Int × Int × List Diii × Int × Int
def spread_Least_S8 (v : spread_Least_Y8) : St := ⟨[(3, .ptr 0 0), (6, .ptr 1 0), (7, .ptr 2 0), (12, .rs 3), (13, .ptr 4 0), (14, .int .i64 v.1)], [.cells [.fz Riii v.2.1], .cells [.int .i64 v.2.2.1, .int .i64 v.2.2.2.1], .cells [.int .i64 v.2.2.2.2.1, .int .i64 v.2.2.2.2.2.1], .rows Riii v.2.2.2.2.2.2.1, .cells [.int .i64 v.2.2.2.2.2.2.2.1, .int .i64 v.2.2.2.2.2.2.2.2]]⟩
def spread_Least_r8 (C : spread_Least_C) (v : spread_Least_Y7) : Dt spread_Least_Y8 := (Dt.bnd (C.2.2.2.1 ((v.2.2.2.2.2.2.1, ()), ((v.2.2.2.2.2.1, ()), ()), ())) fun r1 => (Dt.ret (r1, v.1, v.2.1, v.2.2.1, v.2.2.2.1, v.2.2.2.2.1, v.2.2.2.2.2.2.1, v.2.2.2.2.2.2.2.1, v.2.2.2.2.2.2.2.2)))
theorem spread_Least_g8 (C : spread_Least_C) (v : spread_Least_Y7) : treg tysT (orc (spread_Least_tab C)) 56 (regO (bodyOf f9) 8) false [(3, (.box [.val Riii])), (6, .any), (7, .any), (12, (.own Riii)), (13, .any), (14, .any)] (spread_Least_S7 v) some = (spread_Least_r8 C v).eval fun y => some (spread_Least_S8 y) := by kernel_rfl
abbrev spread_Least_Y9 : Type := Int × Bool × List Diii × Int × Int × Int × Int × List Diii × Int × Int
def spread_Least_S9 (v : spread_Least_Y9) : St := ⟨[(3, .ptr 0 0), (6, .ptr 1 0), (7, .ptr 2 0), (12, .rs 3), (13, .ptr 4 0), (14, .int .i64 v.1), (37, .bool v.2.1)], [.cells [.fz Riii v.2.2.1], .cells [.int .i64 v.2.2.2.1, .int .i64 v.2.2.2.2.1], .cells [.int .i64 v.2.2.2.2.2.1, .int .i64 v.2.2.2.2.2.2.1], .rows Riii v.2.2.2.2.2.2.2.1, .cells [.int .i64 v.2.2.2.2.2.2.2.2.1, .int .i64 v.2.2.2.2.2.2.2.2.2]]⟩
def spread_Least_r9 (C : spread_Least_C) (v : spread_Least_Y8) : Dt spread_Least_Y9 := (Dt.ret (v.1, (decide (v.1 ≥ (0:Int))), v.2.1, v.2.2.1, v.2.2.2.1, v.2.2.2.2.1, v.2.2.2.2.2.1, v.2.2.2.2.2.2.1, v.2.2.2.2.2.2.2.1, v.2.2.2.2.2.2.2.2))
theorem spread_Least_g9 (C : spread_Least_C) (v : spread_Least_Y8) : treg tysT (orc (spread_Least_tab C)) 56 (regO (bodyOf f9) 9) false [(3, (.box [.val Riii])), (6, .any), (7, .any), (12, (.own Riii)), (13, .any), (14, .any), (37, .any)] (spread_Least_S8 v) some = (spread_Least_r9 C v).eval fun y => some (spread_Least_S9 y) := by kernel_rfl
abbrev spread_Least_Y10 : Type := List Diii × Int × Int × Int × Int × Int × Int
def spread_Least_S10 (v : spread_Least_Y10) : St := ⟨[(3, .ptr 0 0), (6, .ptr 1 0), (7, .ptr 2 0), (13, .ptr 3 0)], [.cells [.fz Riii v.1], .cells [.int .i64 v.2.1, .int .i64 v.2.2.1], .cells [.int .i64 v.2.2.2.1, .int .i64 v.2.2.2.2.1], .cells [.int .i64 v.2.2.2.2.2.1, .int .i64 v.2.2.2.2.2.2]]⟩
def spread_Least_r10 (C : spread_Least_C) (v : spread_Least_Y9) : Dt spread_Least_Y10 := (Dt.ite (inB v.1 (List.length v.2.2.2.2.2.2.2.1)) (Dt.ret (v.2.2.1, v.2.2.2.1, v.2.2.2.2.1, v.2.2.2.2.2.1, v.2.2.2.2.2.2.1, (elt ziii v.2.2.2.2.2.2.2.1 (v.1).toNat).1, (elt ziii v.2.2.2.2.2.2.2.1 (v.1).toNat).2.1)) Dt.fail)
theorem spread_Least_g10 (C : spread_Least_C) (v : spread_Least_Y9) : treg tysT (orc (spread_Least_tab C)) 56 (regO (bodyOf f9) 10) false [(3, (.box [.val Riii])), (6, .any), (7, .any), (13, .any)] (spread_Least_S9 v) some = (spread_Least_r10 C v).eval fun y => some (spread_Least_S10 y) := by kernel_rfl
abbrev spread_Least_Y11 : Type := Int × Int × Int × Int × Int × Int × Int × Int × Int
def spread_Least_S11 (v : spread_Least_Y11) : St := ⟨[(6, .ptr 0 0), (7, .ptr 1 0), (8, .int .i64 v.1), (13, .ptr 2 0), (15, .ptr 3 0)], [.cells [.int .i64 v.2.1, .int .i64 v.2.2.1], .cells [.int .i64 v.2.2.2.1, .int .i64 v.2.2.2.2.1], .cells [.int .i64 v.2.2.2.2.2.1, .int .i64 v.2.2.2.2.2.2.1], .cells [.int .i64 v.2.2.2.2.2.2.2.1, .int .i64 v.2.2.2.2.2.2.2.2]]⟩
def spread_Least_r11 (C : spread_Least_C) (v : spread_Least_Y10) : Dt spread_Least_Y11 := (Dt.bnd (C.1 ((v.1, ()), (v.2.2.2.2.2.1, v.2.2.2.2.2.2, ()), ())) fun r1 => (Dt.ret (r1.2.2, v.2.1, v.2.2.1, v.2.2.2.1, v.2.2.2.2.1, v.2.2.2.2.2.1, v.2.2.2.2.2.2, r1.1, r1.2.1)))
theorem spread_Least_g11 (C : spread_Least_C) (v : spread_Least_Y10) : treg tysT (orc (spread_Least_tab C)) 56 (regO (bodyOf f9) 11) false [(6, .any), (7, .any), (8, .any), (13, .any), (15, .any)] (spread_Least_S10 v) some = (spread_Least_r11 C v).eval fun y => some (spread_Least_S11 y) := by kernel_rfl
abbrev spread_Least_Y12 : Type := Int × Bool × Int × Int × Int × Int × Int × Int × Int × Int
def spread_Least_S12 (v : spread_Least_Y12) : St := ⟨[(6, .ptr 0 0), (7, .ptr 1 0), (8, .int .i64 v.1), (13, .ptr 2 0), (15, .ptr 3 0), (50, .bool v.2.1)], [.cells [.int .i64 v.2.2.1, .int .i64 v.2.2.2.1], .cells [.int .i64 v.2.2.2.2.1, .int .i64 v.2.2.2.2.2.1], .cells [.int .i64 v.2.2.2.2.2.2.1, .int .i64 v.2.2.2.2.2.2.2.1], .cells [.int .i64 v.2.2.2.2.2.2.2.2.1, .int .i64 v.2.2.2.2.2.2.2.2.2]]⟩
def spread_Least_r12 (C : spread_Least_C) (v : spread_Least_Y11) : Dt spread_Least_Y12 := (Dt.ret (v.1, (v.1 != (0:Int)), v.2.1, v.2.2.1, v.2.2.2.1, v.2.2.2.2.1, v.2.2.2.2.2.1, v.2.2.2.2.2.2.1, v.2.2.2.2.2.2.2.1, v.2.2.2.2.2.2.2.2))
theorem spread_Least_g12 (C : spread_Least_C) (v : spread_Least_Y11) : treg tysT (orc (spread_Least_tab C)) 56 (regO (bodyOf f9) 12) false [(6, .any), (7, .any), (8, .any), (13, .any), (15, .any), (50, .any)] (spread_Least_S11 v) some = (spread_Least_r12 C v).eval fun y => some (spread_Least_S12 y) := by kernel_rfl
def spread_Least_r13 (C : spread_Least_C) (v : spread_Least_Y12) : Dt spread_Least_Y3 := (Dt.ret (v.1, v.2.2.1, v.2.2.2.1, v.2.2.2.2.1, v.2.2.2.2.2.1))
theorem spread_Least_g13 (C : spread_Least_C) (v : spread_Least_Y12) : treg tysT (orc (spread_Least_tab C)) 56 (regO (bodyOf f9) 13) true [(6, .any), (7, .any), (8, .any)] (spread_Least_S12 v) some = (spread_Least_r13 C v).eval fun y => some (spread_Least_S3 y) := by kernel_rfl
def spread_Least_r14 (C : spread_Least_C) (v : spread_Least_Y12) : Dt spread_Least_Y3 := (Dt.ret ((0:Int), v.2.2.2.2.2.2.1, v.2.2.2.2.2.2.2.1, v.2.2.2.2.2.2.2.2.1, v.2.2.2.2.2.2.2.2.2))
theorem spread_Least_g14 (C : spread_Least_C) (v : spread_Least_Y12) : treg tysT (orc (spread_Least_tab C)) 56 (regO (bodyOf f9) 14) true [(6, .any), (7, .any), (8, .any)] (spread_Least_S12 v) some = (spread_Least_r14 C v).eval fun y => some (spread_Least_S3 y) := by kernel_rfl
def spread_Least_J1  (d : Nat)  (z : List Diii × Int × Int × Int × Int × Int × Int) : Option (spread_Least_R) :=
  (spread_Least_r11 (spread_Least_K d) z).eval fun y11 =>
  (spread_Least_r12 (spread_Least_K d) y11).eval fun y12 =>
  bif y12.2.1 then ((spread_Least_r13 (spread_Least_K d) y12).eval fun y13 =>
  some (y13.2.1, y13.2.2.1, y13.2.2.2.1, y13.2.2.2.2, y13.1)) else ((spread_Least_r14 (spread_Least_K d) y12).eval fun y14 =>
  some (y14.2.1, y14.2.2.1, y14.2.2.2.1, y14.2.2.2.2, y14.1))
def F_spread_Least (d : Nat) (x : spread_Least_X) : Option spread_Least_R :=
  (spread_Least_r0 (spread_Least_K d) (x.1.1, x.2.1.1, x.2.1.2.1, x.2.2.1.1, x.2.2.1.2.1)).eval fun y0 =>
  (spread_Least_r1 (spread_Least_K d) y0).eval fun y1 =>
  (spread_Least_r2 (spread_Least_K d) y1).eval fun y2 =>
  bif y2.2.1 then ((spread_Least_r3 (spread_Least_K d) y2).eval fun y3 =>
  some (y3.2.1, y3.2.2.1, y3.2.2.2.1, y3.2.2.2.2, y3.1)) else ((spread_Least_r4 (spread_Least_K d) y2).eval fun y4 =>
  (spread_Least_r5 (spread_Least_K d) y4).eval fun y5 =>
  (spread_Least_r6 (spread_Least_K d) y5).eval fun y6 =>
  (spread_Least_r7 (spread_Least_K d) y6).eval fun y7 =>
  (spread_Least_r8 (spread_Least_K d) y7).eval fun y8 =>
  (spread_Least_r9 (spread_Least_K d) y8).eval fun y9 =>
  bif y9.2.1 then ((spread_Least_r10 (spread_Least_K d) y9).eval fun y10 =>
  spread_Least_J1 d  y10) else (spread_Least_J1 d  (y9.2.2.1, y9.2.2.2.1, y9.2.2.2.2.1, y9.2.2.2.2.2.1, y9.2.2.2.2.2.2.1, y9.2.2.2.2.2.2.2.2.1, y9.2.2.2.2.2.2.2.2.2)))
theorem spread_Least_cok (d : Nat) : COK prog (spread_Least_sp (F_spread_Least d)) := by
  have hm : prog.follows .mixedOrders = true := mixed
  have hT := tys
  have hC0 : OrcOK prog (orc (spread_Least_tab (spread_Least_K d))) := orc_ok (by
    intro S hS
    simp only [spread_Least_tab, List.mem_cons, List.not_mem_nil, or_false] at hS
    rcases hS with rfl | rfl | rfl | rfl
    · exact spread_At_cok d
    · exact spread_check_cok d
    · exact spread_all_cok d
    · exact slices_IndexFunc_spread_turn_spread_turn_at_spread_Least_1_cok d)
  have hC : OrcOK prog (orc (spread_Least_tab (spread_Least_K d))) := hC0
  refine cok_of (c := bodyOf f9) (fn := f9) hT (by kernel_rfl) (by kernel_rfl) (by decide) fun x r h w0 φ0 Q hend => ?_
  replace h : F_spread_Least d x = some r := h
  unfold F_spread_Least at h
  show Run prog w0 φ0 56 (bodyOf f9) ⟨[(0, .agg [.fz Riii x.1.1]), (1, .agg [.int .i64 x.2.1.1, .int .i64 x.2.1.2.1]), (2, .agg [.int .i64 x.2.2.1.1, .int .i64 x.2.2.1.2.1])], []⟩ Q
  refine run_seq ?_
  refine run_reg hm hT hC (spread_Least_g0 (spread_Least_K d) (x.1.1, x.2.1.1, x.2.1.2.1, x.2.2.1.1, x.2.2.1.2.1)) h ?_
  intro y0 h
  refine cn_then ?_
  refine run_seq ?_
  refine run_seq ?_
  refine run_reg hm hT hC (spread_Least_g1 (spread_Least_K d) y0) h ?_
  intro y1 h
  refine cn_then ?_
  refine run_seq ?_
  refine run_reg hm hT hC (spread_Least_g2 (spread_Least_K d) y1) h ?_
  intro y2 h
  refine cn_then ?_
  refine run_cond (v := y2.2.1) (by kernel_rfl) h ?_ ?_
  ·
    intro h
    refine run_seq ?_
    refine run_reg hm hT hC (spread_Least_g3 (spread_Least_K d) y2) h ?_
    intro y3 h
    refine cn_then ?_
    refine run_ret ?_
    refine cn_then_ret ?_
    cases h
    exact (hend _ (by kernel_rfl)).2
  ·
    intro h
    refine run_skip ?_
    refine cn_then ?_
    refine run_seq ?_
    refine run_reg hm hT hC (spread_Least_g4 (spread_Least_K d) y2) h ?_
    intro y4 h
    refine cn_then ?_
    refine run_seq ?_
    refine run_reg hm hT hC (spread_Least_g5 (spread_Least_K d) y4) h ?_
    intro y5 h
    refine cn_then ?_
    refine run_seq ?_
    refine run_reg hm hT hC (spread_Least_g6 (spread_Least_K d) y5) h ?_
    intro y6 h
    refine cn_then ?_
    refine run_seq ?_
    refine run_reg hm hT hC (spread_Least_g7 (spread_Least_K d) y6) h ?_
    intro y7 h
    refine cn_then ?_
    refine run_join (r := r) (F := spread_Least_J1 d ) (S := (fun z => ⟨[(3, .ptr 0 0), (6, .ptr 1 0), (7, .ptr 2 0), (13, .ptr 3 0)], [.cells [.fz Riii z.1], .cells [.int .i64 z.2.1, .int .i64 z.2.2.1], .cells [.int .i64 z.2.2.2.1, .int .i64 z.2.2.2.2.1], .cells [.int .i64 z.2.2.2.2.2.1, .int .i64 z.2.2.2.2.2.2]]⟩ : List Diii × Int × Int × Int × Int × Int × Int → St)) ?_ ?_
    ·
      intro z h
      unfold spread_Least_J1 at h
      refine run_seq ?_
      refine run_reg hm hT hC (spread_Least_g11 (spread_Least_K d) z) h ?_
      intro y11 h
      refine cn_then ?_
      refine run_seq ?_
      refine run_seq ?_
      refine run_reg hm hT hC (spread_Least_g12 (spread_Least_K d) y11) h ?_
      intro y12 h
      refine cn_then ?_
      refine run_cond (v := y12.2.1) (by kernel_rfl) h ?_ ?_
      ·
        intro h
        refine run_seq ?_
        refine run_reg hm hT hC (spread_Least_g13 (spread_Least_K d) y12) h ?_
        intro y13 h
        refine cn_then ?_
        refine run_ret ?_
        refine cn_then_ret ?_
        cases h
        exact (hend _ (by kernel_rfl)).2
      ·
        intro h
        refine run_skip ?_
        refine cn_then ?_
        refine run_seq ?_
        refine run_reg hm hT hC (spread_Least_g14 (spread_Least_K d) y12) h ?_
        intro y14 h
        refine cn_then ?_
        refine run_ret ?_
        cases h
        exact (hend _ (by kernel_rfl)).2
    intro hj1
    refine run_seq ?_
    refine run_reg hm hT hC (spread_Least_g8 (spread_Least_K d) y7) h ?_
    intro y8 h
    refine cn_then ?_
    refine run_seq ?_
    refine run_reg hm hT hC (spread_Least_g9 (spread_Least_K d) y8) h ?_
    intro y9 h
    refine cn_then ?_
    refine run_cond (v := y9.2.1) (by kernel_rfl) h ?_ ?_
    ·
      intro h
      refine run_reg hm hT hC (spread_Least_g10 (spread_Least_K d) y9) h ?_
      intro y10 h
      exact hj1 _ h
    ·
      intro h
      refine run_skip ?_
      refine cn_num (s := ⟨[(3, .ptr 0 0), (6, .ptr 1 0), (7, .ptr 2 0), (13, .ptr 3 0)], [.cells [.fz Riii y9.2.2.1], .cells [.int .i64 y9.2.2.2.1, .int .i64 y9.2.2.2.2.1], .cells [.int .i64 y9.2.2.2.2.2.1, .int .i64 y9.2.2.2.2.2.2.1], .cells [.int .i64 y9.2.2.2.2.2.2.2.2.1, .int .i64 y9.2.2.2.2.2.2.2.2.2]]⟩) [12, 14, 37] (by kernel_rfl) ?_
      exact hj1 _ h
end Go.Proofs.YtpojhcjdcbegiaaGreat

namespace Go.Proofs.YtpojhcjdcbegiaaGreat
open Go Go.Tx Go.Proofs.Tryz
set_option maxRecDepth 100000
set_option maxHeartbeats 0
abbrev law32_whole_ps : List Pk := [.row Ri false]
abbrev law32_whole_X : Type := Di × Unit
abbrev law32_whole_R : Type := Int × Int
def law32_whole_enc (r : law32_whole_R) : LV × List Ob := (.agg [.int .i64 r.1, .int .i64 r.2], [])
def law32_whole_sp (F : law32_whole_X → Option law32_whole_R) : Go.Tx.Spec := ⟨5, law32_whole_ps, law32_whole_R, F, law32_whole_enc⟩
abbrev law32_whole_C : Type := Unit
def law32_whole_K (_d : Nat) : law32_whole_C := ()
def law32_whole_tab (C : law32_whole_C) : List Go.Tx.Spec := []
abbrev law32_whole_Y0i : Type := Int
def law32_whole_S0i (v : law32_whole_Y0i) : St := ⟨[(0, .int .i64 v)], []⟩
abbrev law32_whole_Y0 : Type := Int × Int × Int
def law32_whole_S0 (v : law32_whole_Y0) : St := ⟨[(0, .int .i64 v.1), (2, .ptr 0 0)], [.cells [.int .i64 v.2.1, .int .i64 v.2.2]]⟩
def law32_whole_r0 (C : law32_whole_C) (v : law32_whole_Y0i) : Dt law32_whole_Y0 := (Dt.ret (v, (0:Int), (0:Int)))
theorem law32_whole_g0 (C : law32_whole_C) (v : law32_whole_Y0i) : treg tysT (orc (law32_whole_tab C)) 5 (regO (bodyOf f5) 0) false [(0, .any), (2, .any)] (law32_whole_S0i v) some = (law32_whole_r0 C v).eval fun y => some (law32_whole_S0 y) := by kernel_rfl
abbrev law32_whole_Y1 : Type := Int × Int
def law32_whole_S1 (v : law32_whole_Y1) : St := ⟨[(2, .ptr 0 0)], [.cells [.int .i64 v.1, .int .i64 v.2]]⟩
def law32_whole_r1 (C : law32_whole_C) (v : law32_whole_Y0) : Dt law32_whole_Y1 := (Dt.ret (v.1, (1:Int)))
theorem law32_whole_g1 (C : law32_whole_C) (v : law32_whole_Y0) : treg tysT (orc (law32_whole_tab C)) 5 (regO (bodyOf f5) 1) false [(2, .any)] (law32_whole_S0 v) some = (law32_whole_r1 C v).eval fun y => some (law32_whole_S1 y) := by kernel_rfl
def F_law32_whole (d : Nat) (x : law32_whole_X) : Option law32_whole_R :=
  (law32_whole_r0 (law32_whole_K d) x.1.1).eval fun y0 =>
  (law32_whole_r1 (law32_whole_K d) y0).eval fun y1 =>
  some y1
theorem law32_whole_cok (d : Nat) : COK prog (law32_whole_sp (F_law32_whole d)) := by
  have hm : prog.follows .mixedOrders = true := mixed
  have hT := tys
  have hC0 : OrcOK prog (orc (law32_whole_tab (law32_whole_K d))) := orc_ok (by
    intro S hS
    simp only [law32_whole_tab, List.mem_cons, List.not_mem_nil, or_false] at hS
    all_goals first | cases hS | exact hS.elim)
  have hC : OrcOK prog (orc (law32_whole_tab (law32_whole_K d))) := hC0
  refine cok_of (c := bodyOf f5) (fn := f5) hT (by kernel_rfl) (by kernel_rfl) (by decide) fun x r h w0 φ0 Q hend => ?_
  replace h : F_law32_whole d x = some r := h
  unfold F_law32_whole at h
  show Run prog w0 φ0 5 (bodyOf f5) ⟨[(0, .int .i64 x.1.1)], []⟩ Q
  refine run_seq ?_
  refine run_reg hm hT hC (law32_whole_g0 (law32_whole_K d) x.1.1) h ?_
  intro y0 h
  refine cn_then ?_
  refine run_seq ?_
  refine run_reg hm hT hC (law32_whole_g1 (law32_whole_K d) y0) h ?_
  intro y1 h
  refine cn_then ?_
  refine run_ret ?_
  cases h
  exact (hend _ (by kernel_rfl)).2
abbrev law32_make3_ps : List Pk := []
abbrev law32_make3_X : Type := Unit
abbrev law32_make3_R : Type := List Diii
def law32_make3_enc (r : law32_make3_R) : LV × List Ob := (.agg [.rs 0], [.rows Riii r])
def law32_make3_sp (F : law32_make3_X → Option law32_make3_R) : Go.Tx.Spec := ⟨10, law32_make3_ps, law32_make3_R, F, law32_make3_enc⟩
abbrev law32_make3_C : Type := Unit
def law32_make3_K (_d : Nat) : law32_make3_C := ()
def law32_make3_tab (C : law32_make3_C) : List Go.Tx.Spec := []
abbrev law32_make3_Y0i : Type := Unit
def law32_make3_S0i (v : law32_make3_Y0i) : St := ⟨[], []⟩
abbrev law32_make3_Y0 : Type := List Diii
def law32_make3_S0 (v : law32_make3_Y0) : St := ⟨[(0, .ptr 0 0)], [.cells [.rs 1], .rows Riii v]⟩
def law32_make3_r0 (C : law32_make3_C) (v : law32_make3_Y0i) : Dt law32_make3_Y0 := (Dt.ret ([] : List Diii))
theorem law32_make3_g0 (C : law32_make3_C) (v : law32_make3_Y0i) : treg tysT (orc (law32_make3_tab C)) 5 (regO (bodyOf f10) 0) false [(0, (.box [.own Riii]))] (law32_make3_S0i v) some = (law32_make3_r0 C v).eval fun y => some (law32_make3_S0 y) := by kernel_rfl
def law32_make3_r1 (C : law32_make3_C) (v : law32_make3_Y0) : Dt law32_make3_Y0 := (Dt.ret ([((2:Int), (0:Int), (0:Int), ()), ((1:Int), (0:Int), (0:Int), ())] : List Diii))
theorem law32_make3_g1 (C : law32_make3_C) (v : law32_make3_Y0) : treg tysT (orc (law32_make3_tab C)) 5 (regO (bodyOf f10) 1) false [(0, (.box [.own Riii]))] (law32_make3_S0 v) some = (law32_make3_r1 C v).eval fun y => some (law32_make3_S0 y) := by kernel_rfl
def F_law32_make3 (d : Nat) (x : law32_make3_X) : Option law32_make3_R :=
  (law32_make3_r0 (law32_make3_K d) ()).eval fun y0 =>
  (law32_make3_r1 (law32_make3_K d) y0).eval fun y1 =>
  some y1
theorem law32_make3_cok (d : Nat) : COK prog (law32_make3_sp (F_law32_make3 d)) := by
  have hm : prog.follows .mixedOrders = true := mixed
  have hT := tys
  have hC0 : OrcOK prog (orc (law32_make3_tab (law32_make3_K d))) := orc_ok (by
    intro S hS
    simp only [law32_make3_tab, List.mem_cons, List.not_mem_nil, or_false] at hS
    all_goals first | cases hS | exact hS.elim)
  have hC : OrcOK prog (orc (law32_make3_tab (law32_make3_K d))) := hC0
  refine cok_of (c := bodyOf f10) (fn := f10) hT (by kernel_rfl) (by kernel_rfl) (by decide) fun x r h w0 φ0 Q hend => ?_
  replace h : F_law32_make3 d x = some r := h
  unfold F_law32_make3 at h
  show Run prog w0 φ0 5 (bodyOf f10) ⟨[], []⟩ Q
  refine run_seq ?_
  refine run_reg hm hT hC (law32_make3_g0 (law32_make3_K d) ()) h ?_
  intro y0 h
  refine cn_then ?_
  refine run_seq ?_
  refine run_reg hm hT hC (law32_make3_g1 (law32_make3_K d) y0) h ?_
  intro y1 h
  refine cn_then ?_
  refine run_ret ?_
  cases h
  exact (hend _ (by kernel_rfl)).2
abbrev law32_example_ps : List Pk := []
abbrev law32_example_X : Type := Unit
abbrev law32_example_R : Type := List Diii
def law32_example_enc (r : law32_example_R) : LV × List Ob := (.agg [.rs 0], [.rows Riii r])
def law32_example_sp (F : law32_example_X → Option law32_example_R) : Go.Tx.Spec := ⟨19, law32_example_ps, law32_example_R, F, law32_example_enc⟩
abbrev law32_example_C : Type := Unit
def law32_example_K (_d : Nat) : law32_example_C := ()
def law32_example_tab (C : law32_example_C) : List Go.Tx.Spec := []
abbrev law32_example_Y0i : Type := Unit
def law32_example_S0i (v : law32_example_Y0i) : St := ⟨[], []⟩
abbrev law32_example_Y0 : Type := List Diii
def law32_example_S0 (v : law32_example_Y0) : St := ⟨[(0, .ptr 0 0)], [.cells [.rs 1], .rows Riii v]⟩
def law32_example_r0 (C : law32_example_C) (v : law32_example_Y0i) : Dt law32_example_Y0 := (Dt.ret ([] : List Diii))
theorem law32_example_g0 (C : law32_example_C) (v : law32_example_Y0i) : treg tysT (orc (law32_example_tab C)) 6 (regO (bodyOf f19) 0) false [(0, (.box [.own Riii]))] (law32_example_S0i v) some = (law32_example_r0 C v).eval fun y => some (law32_example_S0 y) := by kernel_rfl
def law32_example_r1 (C : law32_example_C) (v : law32_example_Y0) : Dt law32_example_Y0 := (Dt.ret ([((1:Int), (0:Int), (2:Int), ()), ((2:Int), (6:Int), (-1:Int), ()), ((5:Int), (0:Int), (0:Int), ())] : List Diii))
theorem law32_example_g1 (C : law32_example_C) (v : law32_example_Y0) : treg tysT (orc (law32_example_tab C)) 6 (regO (bodyOf f19) 1) false [(0, (.box [.own Riii]))] (law32_example_S0 v) some = (law32_example_r1 C v).eval fun y => some (law32_example_S0 y) := by kernel_rfl
def F_law32_example (d : Nat) (x : law32_example_X) : Option law32_example_R :=
  (law32_example_r0 (law32_example_K d) ()).eval fun y0 =>
  (law32_example_r1 (law32_example_K d) y0).eval fun y1 =>
  some y1
theorem law32_example_cok (d : Nat) : COK prog (law32_example_sp (F_law32_example d)) := by
  have hm : prog.follows .mixedOrders = true := mixed
  have hT := tys
  have hC0 : OrcOK prog (orc (law32_example_tab (law32_example_K d))) := orc_ok (by
    intro S hS
    simp only [law32_example_tab, List.mem_cons, List.not_mem_nil, or_false] at hS
    all_goals first | cases hS | exact hS.elim)
  have hC : OrcOK prog (orc (law32_example_tab (law32_example_K d))) := hC0
  refine cok_of (c := bodyOf f19) (fn := f19) hT (by kernel_rfl) (by kernel_rfl) (by decide) fun x r h w0 φ0 Q hend => ?_
  replace h : F_law32_example d x = some r := h
  unfold F_law32_example at h
  show Run prog w0 φ0 6 (bodyOf f19) ⟨[], []⟩ Q
  refine run_seq ?_
  refine run_reg hm hT hC (law32_example_g0 (law32_example_K d) ()) h ?_
  intro y0 h
  refine cn_then ?_
  refine run_seq ?_
  refine run_reg hm hT hC (law32_example_g1 (law32_example_K d) y0) h ?_
  intro y1 h
  refine cn_then ?_
  refine run_ret ?_
  cases h
  exact (hend _ (by kernel_rfl)).2
abbrev ref32_SameTimes_ps : List Pk := [.row RLiiE false, .row RLiiE false]
abbrev ref32_SameTimes_X : Type := DLiiE × DLiiE × Unit
abbrev ref32_SameTimes_R : Type := Bool
def ref32_SameTimes_enc (r : ref32_SameTimes_R) : LV × List Ob := (.bool r, [])
def ref32_SameTimes_sp (F : ref32_SameTimes_X → Option ref32_SameTimes_R) : Go.Tx.Spec := ⟨20, ref32_SameTimes_ps, ref32_SameTimes_R, F, ref32_SameTimes_enc⟩
abbrev ref32_SameTimes_C : Type := Unit
def ref32_SameTimes_K (_d : Nat) : ref32_SameTimes_C := ()
def ref32_SameTimes_tab (C : ref32_SameTimes_C) : List Go.Tx.Spec := []
abbrev ref32_SameTimes_Y0i : Type := List Dii × List Dii
def ref32_SameTimes_S0i (v : ref32_SameTimes_Y0i) : St := ⟨[(0, .fz Rii v.1), (1, .fz Rii v.2)], []⟩
def ref32_SameTimes_r0 (C : ref32_SameTimes_C) (v : ref32_SameTimes_Y0i) : Dt ref32_SameTimes_Y0i := (Dt.ret (v.1, v.2))
theorem ref32_SameTimes_g0 (C : ref32_SameTimes_C) (v : ref32_SameTimes_Y0i) : treg tysT (orc (ref32_SameTimes_tab C)) 26 (regO (bodyOf f20) 0) false [(0, (.val Rii)), (1, (.val Rii))] (ref32_SameTimes_S0i v) some = (ref32_SameTimes_r0 C v).eval fun y => some (ref32_SameTimes_S0i y) := by kernel_rfl
abbrev ref32_SameTimes_Y1 : Type := List Dii × List Dii × Bool
def ref32_SameTimes_S1 (v : ref32_SameTimes_Y1) : St := ⟨[(0, .fz Rii v.1), (1, .fz Rii v.2.1), (10, .bool v.2.2)], []⟩
def ref32_SameTimes_r1 (C : ref32_SameTimes_C) (v : ref32_SameTimes_Y0i) : Dt ref32_SameTimes_Y1 := (Dt.ret (v.1, v.2, ((List.length v.1 : Int) != (List.length v.2 : Int))))
theorem ref32_SameTimes_g1 (C : ref32_SameTimes_C) (v : ref32_SameTimes_Y0i) : treg tysT (orc (ref32_SameTimes_tab C)) 26 (regO (bodyOf f20) 1) false [(0, (.val Rii)), (1, (.val Rii)), (10, .any)] (ref32_SameTimes_S0i v) some = (ref32_SameTimes_r1 C v).eval fun y => some (ref32_SameTimes_S1 y) := by kernel_rfl
abbrev ref32_SameTimes_Y2 : Type := Bool
def ref32_SameTimes_S2 (v : ref32_SameTimes_Y2) : St := ⟨[(4, .bool v)], []⟩
def ref32_SameTimes_r2 (C : ref32_SameTimes_C) (v : ref32_SameTimes_Y1) : Dt ref32_SameTimes_Y2 := (Dt.ret false)
theorem ref32_SameTimes_g2 (C : ref32_SameTimes_C) (v : ref32_SameTimes_Y1) : treg tysT (orc (ref32_SameTimes_tab C)) 26 (regO (bodyOf f20) 2) false [(4, .any)] (ref32_SameTimes_S1 v) some = (ref32_SameTimes_r2 C v).eval fun y => some (ref32_SameTimes_S2 y) := by kernel_rfl
abbrev ref32_SameTimes_Y3 : Type := List Dii × List Dii × Int
def ref32_SameTimes_S3 (v : ref32_SameTimes_Y3) : St := ⟨[(0, .fz Rii v.1), (1, .fz Rii v.2.1), (5, .int .i64 v.2.2)], []⟩
def ref32_SameTimes_r3 (C : ref32_SameTimes_C) (v : ref32_SameTimes_Y1) : Dt ref32_SameTimes_Y3 := (Dt.ret (v.1, v.2.1, (0:Int)))
theorem ref32_SameTimes_g3 (C : ref32_SameTimes_C) (v : ref32_SameTimes_Y1) : treg tysT (orc (ref32_SameTimes_tab C)) 26 (regO (bodyOf f20) 3) false [(0, (.val Rii)), (1, (.val Rii)), (5, .any)] (ref32_SameTimes_S1 v) some = (ref32_SameTimes_r3 C v).eval fun y => some (ref32_SameTimes_S3 y) := by kernel_rfl
abbrev ref32_SameTimes_Y4 : Type := List Dii × List Dii × Int × Bool
def ref32_SameTimes_S4 (v : ref32_SameTimes_Y4) : St := ⟨[(0, .fz Rii v.1), (1, .fz Rii v.2.1), (5, .int .i64 v.2.2.1), (14, .bool v.2.2.2)], []⟩
def ref32_SameTimes_r4 (C : ref32_SameTimes_C) (v : ref32_SameTimes_Y3) : Dt ref32_SameTimes_Y4 := (Dt.ret (v.1, v.2.1, v.2.2, (decide (v.2.2 < (List.length v.1 : Int)))))
theorem ref32_SameTimes_g4 (C : ref32_SameTimes_C) (v : ref32_SameTimes_Y3) : treg tysT (orc (ref32_SameTimes_tab C)) 26 (regO (bodyOf f20) 4) false [(0, (.val Rii)), (1, (.val Rii)), (5, .any), (14, .any)] (ref32_SameTimes_S3 v) some = (ref32_SameTimes_r4 C v).eval fun y => some (ref32_SameTimes_S4 y) := by kernel_rfl
abbrev ref32_SameTimes_Y6 : Type := List Dii × List Dii × Int × Bool
def ref32_SameTimes_S6 (v : ref32_SameTimes_Y6) : St := ⟨[(0, .fz Rii v.1), (1, .fz Rii v.2.1), (5, .int .i64 v.2.2.1), (25, .bool v.2.2.2)], []⟩
def ref32_SameTimes_r6 (C : ref32_SameTimes_C) (v : ref32_SameTimes_Y4) : Dt ref32_SameTimes_Y6 := (Dt.ite (inB v.2.2.1 (List.length v.1)) (Dt.ite (inB v.2.2.1 (List.length v.2.1)) (Dt.ret (v.1, v.2.1, v.2.2.1, (!(((elt zii v.1 (v.2.2.1).toNat).1 == (elt zii v.2.1 (v.2.2.1).toNat).1) && (((elt zii v.1 (v.2.2.1).toNat).2.1 == (elt zii v.2.1 (v.2.2.1).toNat).2.1) && true))))) Dt.fail) Dt.fail)
theorem ref32_SameTimes_g6 (C : ref32_SameTimes_C) (v : ref32_SameTimes_Y4) : treg tysT (orc (ref32_SameTimes_tab C)) 26 (regO (bodyOf f20) 6) true [(0, (.val Rii)), (1, (.val Rii)), (5, .any), (25, .any)] (ref32_SameTimes_S4 v) some = (ref32_SameTimes_r6 C v).eval fun y => some (ref32_SameTimes_S6 y) := by kernel_rfl
def ref32_SameTimes_r7 (C : ref32_SameTimes_C) (v : ref32_SameTimes_Y6) : Dt ref32_SameTimes_Y2 := (Dt.ret false)
theorem ref32_SameTimes_g7 (C : ref32_SameTimes_C) (v : ref32_SameTimes_Y6) : treg tysT (orc (ref32_SameTimes_tab C)) 26 (regO (bodyOf f20) 7) false [(4, .any)] (ref32_SameTimes_S6 v) some = (ref32_SameTimes_r7 C v).eval fun y => some (ref32_SameTimes_S2 y) := by kernel_rfl
def ref32_SameTimes_r5 (C : ref32_SameTimes_C) (v : ref32_SameTimes_Y6) : Dt ref32_SameTimes_Y3 := (Dt.ret (v.1, v.2.1, (IntKind.wrap .i64 (v.2.2.1 + (1:Int)))))
theorem ref32_SameTimes_g5 (C : ref32_SameTimes_C) (v : ref32_SameTimes_Y6) : treg tysT (orc (ref32_SameTimes_tab C)) 26 (regO (bodyOf f20) 5) false [(0, (.val Rii)), (1, (.val Rii)), (5, .any)] (ref32_SameTimes_S6 v) some = (ref32_SameTimes_r5 C v).eval fun y => some (ref32_SameTimes_S3 y) := by kernel_rfl
def ref32_SameTimes_r8 (C : ref32_SameTimes_C) (v : ref32_SameTimes_Y4) : Dt ref32_SameTimes_Y2 := (Dt.ret true)
theorem ref32_SameTimes_g8 (C : ref32_SameTimes_C) (v : ref32_SameTimes_Y4) : treg tysT (orc (ref32_SameTimes_tab C)) 26 (regO (bodyOf f20) 8) false [(4, .any)] (ref32_SameTimes_S4 v) some = (ref32_SameTimes_r8 C v).eval fun y => some (ref32_SameTimes_S2 y) := by kernel_rfl
def ref32_SameTimes_L1 (d : Nat) (self1 : (List Dii × List Dii × Int) → Option ref32_SameTimes_R) (x1 : List Dii × List Dii × Int) : Option ref32_SameTimes_R :=
  (ref32_SameTimes_r4 (ref32_SameTimes_K d) x1).eval fun y4 =>
  bif y4.2.2.2 then ((ref32_SameTimes_r6 (ref32_SameTimes_K d) y4).eval fun y6 =>
  bif y6.2.2.2 then ((ref32_SameTimes_r7 (ref32_SameTimes_K d) y6).eval fun y7 =>
  some y7) else ((ref32_SameTimes_r5 (ref32_SameTimes_K d) y6).eval fun y5 =>
  self1 y5)) else ((ref32_SameTimes_r8 (ref32_SameTimes_K d) y4).eval fun y8 =>
  some y8)
def F_ref32_SameTimes (d : Nat) (x : ref32_SameTimes_X) : Option ref32_SameTimes_R :=
  (ref32_SameTimes_r0 (ref32_SameTimes_K d) (x.1.1, x.2.1.1)).eval fun y0 =>
  (ref32_SameTimes_r1 (ref32_SameTimes_K d) y0).eval fun y1 =>
  bif y1.2.2 then ((ref32_SameTimes_r2 (ref32_SameTimes_K d) y1).eval fun y2 =>
  some y2) else ((ref32_SameTimes_r3 (ref32_SameTimes_K d) y1).eval fun y3 =>
  iter (ref32_SameTimes_L1 d ) d y3)
theorem ref32_SameTimes_cok (d : Nat) : COK prog (ref32_SameTimes_sp (F_ref32_SameTimes d)) := by
  have hm : prog.follows .mixedOrders = true := mixed
  have hT := tys
  have hC0 : OrcOK prog (orc (ref32_SameTimes_tab (ref32_SameTimes_K d))) := orc_ok (by
    intro S hS
    simp only [ref32_SameTimes_tab, List.mem_cons, List.not_mem_nil, or_false] at hS
    all_goals first | cases hS | exact hS.elim)
  have hC : OrcOK prog (orc (ref32_SameTimes_tab (ref32_SameTimes_K d))) := hC0
  refine cok_of (c := bodyOf f20) (fn := f20) hT (by kernel_rfl) (by kernel_rfl) (by decide) fun x r h w0 φ0 Q hend => ?_
  replace h : F_ref32_SameTimes d x = some r := h
  unfold F_ref32_SameTimes at h
  show Run prog w0 φ0 26 (bodyOf f20) ⟨[(0, .fz Rii x.1.1), (1, .fz Rii x.2.1.1)], []⟩ Q
  refine run_seq ?_
  refine run_reg hm hT hC (ref32_SameTimes_g0 (ref32_SameTimes_K d) (x.1.1, x.2.1.1)) h ?_
  intro y0 h
  refine cn_then ?_
  refine run_seq ?_
  refine run_seq ?_
  refine run_reg hm hT hC (ref32_SameTimes_g1 (ref32_SameTimes_K d) y0) h ?_
  intro y1 h
  refine cn_then ?_
  refine run_cond (v := y1.2.2) (by kernel_rfl) h ?_ ?_
  ·
    intro h
    refine run_seq ?_
    refine run_reg hm hT hC (ref32_SameTimes_g2 (ref32_SameTimes_K d) y1) h ?_
    intro y2 h
    refine cn_then ?_
    refine run_ret ?_
    refine cn_then_ret ?_
    cases h
    exact (hend _ (by kernel_rfl)).2
  ·
    intro h
    refine run_skip ?_
    refine cn_then ?_
    refine run_seq ?_
    refine run_seq ?_
    refine run_reg hm hT hC (ref32_SameTimes_g3 (ref32_SameTimes_K d) y1) h ?_
    intro y3 h
    refine cn_then ?_
    refine run_block ?_
    refine run_loop (G := iter (ref32_SameTimes_L1 d )) (S := (fun x1 => ⟨[(0, .fz Rii x1.1), (1, .fz Rii x1.2.1), (5, .int .i64 x1.2.2)], []⟩ : List Dii × List Dii × Int → St)) (fun _ => rfl) ?_ d _ h
    intro n1 x1 h K1 hn1
    replace h : ref32_SameTimes_L1 d  (iter (ref32_SameTimes_L1 d ) n1) x1 = some r := h
    generalize iter (ref32_SameTimes_L1 d ) n1 = self1 at h hn1
    unfold ref32_SameTimes_L1 at h
    refine run_seq ?_
    refine run_seq ?_
    refine run_reg hm hT hC (ref32_SameTimes_g4 (ref32_SameTimes_K d) x1) h ?_
    intro y4 h
    refine cn_then ?_
    refine run_cond (v := y4.2.2.2) (by kernel_rfl) h ?_ ?_
    ·
      intro h
      refine run_skip ?_
      refine cn_then ?_
      refine run_seq ?_
      refine run_block ?_
      refine run_seq ?_
      refine run_reg hm hT hC (ref32_SameTimes_g6 (ref32_SameTimes_K d) y4) h ?_
      intro y6 h
      refine cn_then ?_
      refine run_cond (v := y6.2.2.2) (by kernel_rfl) h ?_ ?_
      ·
        intro h
        refine run_seq ?_
        refine run_reg hm hT hC (ref32_SameTimes_g7 (ref32_SameTimes_K d) y6) h ?_
        intro y7 h
        refine cn_then ?_
        refine run_ret ?_
        refine cn_blk_ret ?_
        refine cn_then_ret ?_
        refine cn_then_ret ?_
        refine cn_blk_ret ?_
        refine cn_then_ret ?_
        cases h
        exact (hend _ (by kernel_rfl)).2
      ·
        intro h
        refine run_skip ?_
        refine cn_blk ?_
        refine cn_then ?_
        refine run_reg hm hT hC (ref32_SameTimes_g5 (ref32_SameTimes_K d) y6) h ?_
        intro y5 h
        exact hn1 _ h
    ·
      intro h
      refine run_exit ?_
      refine cn_then_exit ?_
      refine cn_then_exit ?_
      refine cn_blk_eq ?_
      refine cn_then ?_
      refine run_seq ?_
      refine run_reg hm hT hC (ref32_SameTimes_g8 (ref32_SameTimes_K d) y4) h ?_
      intro y8 h
      refine cn_then ?_
      refine run_ret ?_
      cases h
      exact (hend _ (by kernel_rfl)).2
abbrev law32_alive_ps : List Pk := []
abbrev law32_alive_X : Type := Unit
abbrev law32_alive_R : Type := Bool
def law32_alive_enc (r : law32_alive_R) : LV × List Ob := (.bool r, [])
def law32_alive_sp (F : law32_alive_X → Option law32_alive_R) : Go.Tx.Spec := ⟨11, law32_alive_ps, law32_alive_R, F, law32_alive_enc⟩
abbrev law32_alive_C : Type := (spread_Ends_X → Option spread_Ends_R) × (law32_whole_X → Option law32_whole_R) × (spread_At_X → Option spread_At_R) × (spread_Slope_X → Option spread_Slope_R) × (spread_Turns_X → Option spread_Turns_R) × (spread_Least_X → Option spread_Least_R) × (law32_example_X → Option law32_example_R) × (ref32_SameTimes_X → Option ref32_SameTimes_R) × Unit
def law32_alive_K (d : Nat) : law32_alive_C := (F_spread_Ends d, F_law32_whole d, F_spread_At d, F_spread_Slope d, F_spread_Turns d, F_spread_Least d, F_law32_example d, F_ref32_SameTimes d, ())
def law32_alive_tab (C : law32_alive_C) : List Go.Tx.Spec := [spread_Ends_sp C.1, law32_whole_sp C.2.1, spread_At_sp C.2.2.1, spread_Slope_sp C.2.2.2.1, spread_Turns_sp C.2.2.2.2.1, spread_Least_sp C.2.2.2.2.2.1, law32_example_sp C.2.2.2.2.2.2.1, ref32_SameTimes_sp C.2.2.2.2.2.2.2.1]
abbrev law32_alive_Y0i : Type := Unit
def law32_alive_S0i (v : law32_alive_Y0i) : St := ⟨[], []⟩
def law32_alive_r0 (C : law32_alive_C) (v : law32_alive_Y0i) : Dt law32_alive_Y0i := (Dt.ret ())
theorem law32_alive_g0 (C : law32_alive_C) (v : law32_alive_Y0i) : treg tysT (orc (law32_alive_tab C)) 101 (regO (bodyOf f11) 0) false [] (law32_alive_S0i v) some = (law32_alive_r0 C v).eval fun y => some (law32_alive_S0i y) := by kernel_rfl
abbrev law32_alive_Y1 : Type := List Diii
def law32_alive_S1 (v : law32_alive_Y1) : St := ⟨[(1, .ptr 0 0)], [.cells [.rs 1], .rows Riii v]⟩
def law32_alive_r1 (C : law32_alive_C) (v : law32_alive_Y0i) : Dt law32_alive_Y1 := (Dt.bnd (C.2.2.2.2.2.2.1 (())) fun r1 => (Dt.ret r1))
theorem law32_alive_g1 (C : law32_alive_C) (v : law32_alive_Y0i) : treg tysT (orc (law32_alive_tab C)) 101 (regO (bodyOf f11) 1) false [(1, (.box [.own Riii]))] (law32_alive_S0i v) some = (law32_alive_r1 C v).eval fun y => some (law32_alive_S1 y) := by kernel_rfl
abbrev law32_alive_Y2 : Type := Int × Int × Int × List Diii
def law32_alive_S2 (v : law32_alive_Y2) : St := ⟨[(1, .ptr 0 0), (2, .int .i64 v.1), (3, .int .i64 v.2.1), (4, .int .i64 v.2.2.1)], [.cells [.rs 1], .rows Riii v.2.2.2]⟩
def law32_alive_r2 (C : law32_alive_C) (v : law32_alive_Y1) : Dt law32_alive_Y2 := (Dt.bnd (C.2.1 (((0:Int), ()), ())) fun r1 => (Dt.bnd (C.1 ((v, ()), (r1.1, r1.2, ()), ())) fun r2 => (Dt.ret (r2.1, r2.2.1, r2.2.2, v))))
theorem law32_alive_g2 (C : law32_alive_C) (v : law32_alive_Y1) : treg tysT (orc (law32_alive_tab C)) 101 (regO (bodyOf f11) 2) true [(1, (.box [.own Riii])), (2, .any), (3, .any), (4, .any)] (law32_alive_S1 v) some = (law32_alive_r2 C v).eval fun y => some (law32_alive_S2 y) := by kernel_rfl
abbrev law32_alive_Y3 : Type := Int × Int × Int × Int × List Diii × Int × Int
def law32_alive_S3 (v : law32_alive_Y3) : St := ⟨[(1, .ptr 0 0), (2, .int .i64 v.1), (3, .int .i64 v.2.1), (4, .int .i64 v.2.2.1), (5, .ptr 2 0), (6, .int .i64 v.2.2.2.1)], [.cells [.rs 1], .rows Riii v.2.2.2.2.1, .cells [.int .i64 v.2.2.2.2.2.1, .int .i64 v.2.2.2.2.2.2]]⟩
def law32_alive_r3 (C : law32_alive_C) (v : law32_alive_Y2) : Dt law32_alive_Y3 := (Dt.bnd (C.2.1 (((0:Int), ()), ())) fun r1 => (Dt.bnd (C.2.2.1 ((v.2.2.2, ()), (r1.1, r1.2, ()), ())) fun r2 => (Dt.ret (v.1, v.2.1, v.2.2.1, r2.2.2, v.2.2.2, r2.1, r2.2.1))))
theorem law32_alive_g3 (C : law32_alive_C) (v : law32_alive_Y2) : treg tysT (orc (law32_alive_tab C)) 101 (regO (bodyOf f11) 3) true [(1, (.box [.own Riii])), (2, .any), (3, .any), (4, .any), (5, .any), (6, .any)] (law32_alive_S2 v) some = (law32_alive_r3 C v).eval fun y => some (law32_alive_S3 y) := by kernel_rfl
abbrev law32_alive_Y4 : Type := Int × Int × Int × Int × Int × Int × List Diii × Int × Int
def law32_alive_S4 (v : law32_alive_Y4) : St := ⟨[(1, .ptr 0 0), (2, .int .i64 v.1), (3, .int .i64 v.2.1), (4, .int .i64 v.2.2.1), (5, .ptr 2 0), (6, .int .i64 v.2.2.2.1), (7, .int .i64 v.2.2.2.2.1), (8, .int .i64 v.2.2.2.2.2.1)], [.cells [.rs 1], .rows Riii v.2.2.2.2.2.2.1, .cells [.int .i64 v.2.2.2.2.2.2.2.1, .int .i64 v.2.2.2.2.2.2.2.2]]⟩
def law32_alive_r4 (C : law32_alive_C) (v : law32_alive_Y3) : Dt law32_alive_Y4 := (Dt.bnd (C.2.1 (((0:Int), ()), ())) fun r1 => (Dt.bnd (C.2.2.2.1 ((v.2.2.2.2.1, ()), (r1.1, r1.2, ()), ())) fun r2 => (Dt.ret (v.1, v.2.1, v.2.2.1, v.2.2.2.1, r2.1, r2.2, v.2.2.2.2.1, v.2.2.2.2.2.1, v.2.2.2.2.2.2))))
theorem law32_alive_g4 (C : law32_alive_C) (v : law32_alive_Y3) : treg tysT (orc (law32_alive_tab C)) 101 (regO (bodyOf f11) 4) true [(1, (.box [.own Riii])), (2, .any), (3, .any), (4, .any), (5, .any), (6, .any), (7, .any), (8, .any)] (law32_alive_S3 v) some = (law32_alive_r4 C v).eval fun y => some (law32_alive_S4 y) := by kernel_rfl
abbrev law32_alive_Y5 : Type := Int × Int × Int × Int × Int × Int × Int × List Diii × Int × Int × List Dii
def law32_alive_S5 (v : law32_alive_Y5) : St := ⟨[(1, .ptr 0 0), (2, .int .i64 v.1), (3, .int .i64 v.2.1), (4, .int .i64 v.2.2.1), (5, .ptr 2 0), (6, .int .i64 v.2.2.2.1), (7, .int .i64 v.2.2.2.2.1), (8, .int .i64 v.2.2.2.2.2.1), (9, .rs 3), (10, .int .i64 v.2.2.2.2.2.2.1)], [.cells [.rs 1], .rows Riii v.2.2.2.2.2.2.2.1, .cells [.int .i64 v.2.2.2.2.2.2.2.2.1, .int .i64 v.2.2.2.2.2.2.2.2.2.1], .rows Rii v.2.2.2.2.2.2.2.2.2.2]⟩
def law32_alive_r5 (C : law32_alive_C) (v : law32_alive_Y4) : Dt law32_alive_Y5 := (Dt.bnd (C.2.1 (((0:Int), ()), ())) fun r1 => (Dt.bnd (C.2.1 (((10:Int), ()), ())) fun r2 => (Dt.bnd (C.2.2.2.2.1 ((v.2.2.2.2.2.2.1, ()), (r1.1, r1.2, ()), (r2.1, r2.2, ()), ())) fun r3 => (Dt.ret (v.1, v.2.1, v.2.2.1, v.2.2.2.1, v.2.2.2.2.1, v.2.2.2.2.2.1, r3.2, v.2.2.2.2.2.2.1, v.2.2.2.2.2.2.2.1, v.2.2.2.2.2.2.2.2, r3.1)))))
theorem law32_alive_g5 (C : law32_alive_C) (v : law32_alive_Y4) : treg tysT (orc (law32_alive_tab C)) 101 (regO (bodyOf f11) 5) true [(1, (.box [.own Riii])), (2, .any), (3, .any), (4, .any), (5, .any), (6, .any), (7, .any), (8, .any), (9, (.own Rii)), (10, .any)] (law32_alive_S4 v) some = (law32_alive_r5 C v).eval fun y => some (law32_alive_S5 y) := by kernel_rfl
abbrev law32_alive_Y6 : Type := Int × Int × Int × Int × Int × Int × Int × Int × Int × Int × List Dii × Int × Int × Int × Int
def law32_alive_S6 (v : law32_alive_Y6) : St := ⟨[(2, .int .i64 v.1), (3, .int .i64 v.2.1), (4, .int .i64 v.2.2.1), (5, .ptr 0 0), (6, .int .i64 v.2.2.2.1), (7, .int .i64 v.2.2.2.2.1), (8, .int .i64 v.2.2.2.2.2.1), (9, .rs 1), (10, .int .i64 v.2.2.2.2.2.2.1), (11, .ptr 2 0), (12, .ptr 3 0), (13, .int .i64 v.2.2.2.2.2.2.2.1)], [.cells [.int .i64 v.2.2.2.2.2.2.2.2.1, .int .i64 v.2.2.2.2.2.2.2.2.2.1], .rows Rii v.2.2.2.2.2.2.2.2.2.2.1, .cells [.int .i64 v.2.2.2.2.2.2.2.2.2.2.2.1, .int .i64 v.2.2.2.2.2.2.2.2.2.2.2.2.1], .cells [.int .i64 v.2.2.2.2.2.2.2.2.2.2.2.2.2.1, .int .i64 v.2.2.2.2.2.2.2.2.2.2.2.2.2.2]]⟩
def law32_alive_r6 (C : law32_alive_C) (v : law32_alive_Y5) : Dt law32_alive_Y6 := (Dt.bnd (C.2.1 (((0:Int), ()), ())) fun r1 => (Dt.bnd (C.2.1 (((10:Int), ()), ())) fun r2 => (Dt.bnd (C.2.2.2.2.2.1 ((v.2.2.2.2.2.2.2.1, ()), (r1.1, r1.2, ()), (r2.1, r2.2, ()), ())) fun r3 => (Dt.ret (v.1, v.2.1, v.2.2.1, v.2.2.2.1, v.2.2.2.2.1, v.2.2.2.2.2.1, v.2.2.2.2.2.2.1, r3.2.2.2.2, v.2.2.2.2.2.2.2.2.1, v.2.2.2.2.2.2.2.2.2.1, v.2.2.2.2.2.2.2.2.2.2, r3.1, r3.2.1, r3.2.2.1, r3.2.2.2.1)))))
theorem law32_alive_g6 (C : law32_alive_C) (v : law32_alive_Y5) : treg tysT (orc (law32_alive_tab C)) 101 (regO (bodyOf f11) 6) true [(2, .any), (3, .any), (4, .any), (5, .any), (6, .any), (7, .any), (8, .any), (9, (.own Rii)), (10, .any), (11, .any), (12, .any), (13, .any)] (law32_alive_S5 v) some = (law32_alive_r6 C v).eval fun y => some (law32_alive_S6 y) := by kernel_rfl
abbrev law32_alive_Y7 : Type := Bool
def law32_alive_S7 (v : law32_alive_Y7) : St := ⟨[(0, .bool v)], []⟩
def law32_alive_r7 (C : law32_alive_C) (v : law32_alive_Y6) : Dt law32_alive_Y7 := (Dt.ite (v.2.2.1 == (0:Int)) (Dt.ite (v.1 == (2:Int)) (Dt.ite (v.2.1 == (5:Int)) (Dt.ite (v.2.2.2.1 == (0:Int)) (Dt.bnd (C.2.1 (((6:Int), ()), ())) fun r1 => (Dt.ite ((v.2.2.2.2.2.2.2.2.1 == r1.1) && ((v.2.2.2.2.2.2.2.2.2.1 == r1.2) && true)) (Dt.ite (v.2.2.2.2.2.1 == (0:Int)) (Dt.ite (v.2.2.2.2.1 == (-1:Int)) (Dt.ite (v.2.2.2.2.2.2.1 == (0:Int)) (Dt.bnd (C.2.1 (((2:Int), ()), ())) fun r2 => (Dt.bnd (C.2.1 (((6:Int), ()), ())) fun r3 => (Dt.bnd (C.2.2.2.2.2.2.2.1 ((v.2.2.2.2.2.2.2.2.2.2.1, ()), (([(r2.1, r2.2, ()), (r3.1, r3.2, ())] : List Dii), ()), ())) fun r4 => (Dt.ite r4 (Dt.ite (v.2.2.2.2.2.2.2.1 == (0:Int)) (Dt.bnd (C.2.1 (((2:Int), ()), ())) fun r5 => (Dt.ite ((v.2.2.2.2.2.2.2.2.2.2.2.1 == r5.1) && ((v.2.2.2.2.2.2.2.2.2.2.2.2.1 == r5.2) && true)) (Dt.bnd (C.2.1 (((4:Int), ()), ())) fun r6 => (Dt.ret ((v.2.2.2.2.2.2.2.2.2.2.2.2.2.1 == r6.1) && ((v.2.2.2.2.2.2.2.2.2.2.2.2.2.2 == r6.2) && true)))) (Dt.ret false))) (Dt.ret false)) (Dt.ret false))))) (Dt.ret false)) (Dt.ret false)) (Dt.ret false)) (Dt.ret false))) (Dt.ret false)) (Dt.ret false)) (Dt.ret false)) (Dt.ret false))
theorem law32_alive_g7 (C : law32_alive_C) (v : law32_alive_Y6) : treg tysT (orc (law32_alive_tab C)) 101 (regO (bodyOf f11) 7) true [(0, .any)] (law32_alive_S6 v) some = (law32_alive_r7 C v).eval fun y => some (law32_alive_S7 y) := by kernel_rfl
def F_law32_alive (d : Nat) (x : law32_alive_X) : Option law32_alive_R :=
  (law32_alive_r0 (law32_alive_K d) ()).eval fun y0 =>
  (law32_alive_r1 (law32_alive_K d) ()).eval fun y1 =>
  (law32_alive_r2 (law32_alive_K d) y1).eval fun y2 =>
  (law32_alive_r3 (law32_alive_K d) y2).eval fun y3 =>
  (law32_alive_r4 (law32_alive_K d) y3).eval fun y4 =>
  (law32_alive_r5 (law32_alive_K d) y4).eval fun y5 =>
  (law32_alive_r6 (law32_alive_K d) y5).eval fun y6 =>
  (law32_alive_r7 (law32_alive_K d) y6).eval fun y7 =>
  some y7
theorem law32_alive_cok (d : Nat) : COK prog (law32_alive_sp (F_law32_alive d)) := by
  have hm : prog.follows .mixedOrders = true := mixed
  have hT := tys
  have hC0 : OrcOK prog (orc (law32_alive_tab (law32_alive_K d))) := orc_ok (by
    intro S hS
    simp only [law32_alive_tab, List.mem_cons, List.not_mem_nil, or_false] at hS
    rcases hS with rfl | rfl | rfl | rfl | rfl | rfl | rfl | rfl
    · exact spread_Ends_cok d
    · exact law32_whole_cok d
    · exact spread_At_cok d
    · exact spread_Slope_cok d
    · exact spread_Turns_cok d
    · exact spread_Least_cok d
    · exact law32_example_cok d
    · exact ref32_SameTimes_cok d)
  have hC : OrcOK prog (orc (law32_alive_tab (law32_alive_K d))) := hC0
  refine cok_of (c := bodyOf f11) (fn := f11) hT (by kernel_rfl) (by kernel_rfl) (by decide) fun x r h w0 φ0 Q hend => ?_
  replace h : F_law32_alive d x = some r := h
  unfold F_law32_alive at h
  show Run prog w0 φ0 101 (bodyOf f11) ⟨[], []⟩ Q
  refine run_seq ?_
  refine run_reg hm hT hC (law32_alive_g0 (law32_alive_K d) ()) h ?_
  intro y0 h
  refine cn_then ?_
  refine run_seq ?_
  refine run_reg hm hT hC (law32_alive_g1 (law32_alive_K d) ()) h ?_
  intro y1 h
  refine cn_then ?_
  refine run_seq ?_
  refine run_reg hm hT hC (law32_alive_g2 (law32_alive_K d) y1) h ?_
  intro y2 h
  refine cn_then ?_
  refine run_seq ?_
  refine run_reg hm hT hC (law32_alive_g3 (law32_alive_K d) y2) h ?_
  intro y3 h
  refine cn_then ?_
  refine run_seq ?_
  refine run_reg hm hT hC (law32_alive_g4 (law32_alive_K d) y3) h ?_
  intro y4 h
  refine cn_then ?_
  refine run_seq ?_
  refine run_reg hm hT hC (law32_alive_g5 (law32_alive_K d) y4) h ?_
  intro y5 h
  refine cn_then ?_
  refine run_seq ?_
  refine run_reg hm hT hC (law32_alive_g6 (law32_alive_K d) y5) h ?_
  intro y6 h
  refine cn_then ?_
  refine run_seq ?_
  refine run_reg hm hT hC (law32_alive_g7 (law32_alive_K d) y6) h ?_
  intro y7 h
  refine cn_then ?_
  refine run_ret ?_
  cases h
  exact (hend _ (by kernel_rfl)).2
abbrev law32_SpreadNames_ps : List Pk := []
abbrev law32_SpreadNames_X : Type := Unit
abbrev law32_SpreadNames_R : Type := Bool
def law32_SpreadNames_enc (r : law32_SpreadNames_R) : LV × List Ob := (.bool r, [])
def law32_SpreadNames_sp (F : law32_SpreadNames_X → Option law32_SpreadNames_R) : Go.Tx.Spec := ⟨3, law32_SpreadNames_ps, law32_SpreadNames_R, F, law32_SpreadNames_enc⟩
abbrev law32_SpreadNames_C : Type := (spread_Ends_X → Option spread_Ends_R) × (law32_whole_X → Option law32_whole_R) × (spread_At_X → Option spread_At_R) × (spread_Slope_X → Option spread_Slope_R) × (spread_Turns_X → Option spread_Turns_R) × (spread_Least_X → Option spread_Least_R) × (law32_make3_X → Option law32_make3_R) × (law32_alive_X → Option law32_alive_R) × Unit
def law32_SpreadNames_K (d : Nat) : law32_SpreadNames_C := (F_spread_Ends d, F_law32_whole d, F_spread_At d, F_spread_Slope d, F_spread_Turns d, F_spread_Least d, F_law32_make3 d, F_law32_alive d, ())
def law32_SpreadNames_tab (C : law32_SpreadNames_C) : List Go.Tx.Spec := [spread_Ends_sp C.1, law32_whole_sp C.2.1, spread_At_sp C.2.2.1, spread_Slope_sp C.2.2.2.1, spread_Turns_sp C.2.2.2.2.1, spread_Least_sp C.2.2.2.2.2.1, law32_make3_sp C.2.2.2.2.2.2.1, law32_alive_sp C.2.2.2.2.2.2.2.1]
abbrev law32_SpreadNames_Y0i : Type := Unit
def law32_SpreadNames_S0i (v : law32_SpreadNames_Y0i) : St := ⟨[], []⟩
def law32_SpreadNames_r0 (C : law32_SpreadNames_C) (v : law32_SpreadNames_Y0i) : Dt law32_SpreadNames_Y0i := (Dt.ret ())
theorem law32_SpreadNames_g0 (C : law32_SpreadNames_C) (v : law32_SpreadNames_Y0i) : treg tysT (orc (law32_SpreadNames_tab C)) 238 (regO (bodyOf f3) 0) false [] (law32_SpreadNames_S0i v) some = (law32_SpreadNames_r0 C v).eval fun y => some (law32_SpreadNames_S0i y) := by kernel_rfl
abbrev law32_SpreadNames_Y1 : Type := List Diii
def law32_SpreadNames_S1 (v : law32_SpreadNames_Y1) : St := ⟨[(1, .ptr 0 0)], [.cells [.fz Riii v]]⟩
def law32_SpreadNames_r1 (C : law32_SpreadNames_C) (v : law32_SpreadNames_Y0i) : Dt law32_SpreadNames_Y1 := (Dt.ret ([] : List Diii))
theorem law32_SpreadNames_g1 (C : law32_SpreadNames_C) (v : law32_SpreadNames_Y0i) : treg tysT (orc (law32_SpreadNames_tab C)) 238 (regO (bodyOf f3) 1) false [(1, (.box [.val Riii]))] (law32_SpreadNames_S0i v) some = (law32_SpreadNames_r1 C v).eval fun y => some (law32_SpreadNames_S1 y) := by kernel_rfl
abbrev law32_SpreadNames_Y2 : Type := List Diii × List Diii
def law32_SpreadNames_S2 (v : law32_SpreadNames_Y2) : St := ⟨[(1, .ptr 0 0), (2, .ptr 1 0)], [.cells [.fz Riii v.1], .cells [.rs 2], .rows Riii v.2]⟩
def law32_SpreadNames_r2 (C : law32_SpreadNames_C) (v : law32_SpreadNames_Y1) : Dt law32_SpreadNames_Y2 := (Dt.ret (v, ([((-1:Int), (0:Int), (0:Int), ())] : List Diii)))
theorem law32_SpreadNames_g2 (C : law32_SpreadNames_C) (v : law32_SpreadNames_Y1) : treg tysT (orc (law32_SpreadNames_tab C)) 238 (regO (bodyOf f3) 2) false [(1, (.box [.val Riii])), (2, (.box [.own Riii]))] (law32_SpreadNames_S1 v) some = (law32_SpreadNames_r2 C v).eval fun y => some (law32_SpreadNames_S2 y) := by kernel_rfl
abbrev law32_SpreadNames_Y3 : Type := List Diii × List Diii × List Diii
def law32_SpreadNames_S3 (v : law32_SpreadNames_Y3) : St := ⟨[(1, .ptr 0 0), (2, .ptr 1 0), (3, .ptr 3 0)], [.cells [.fz Riii v.1], .cells [.rs 2], .rows Riii v.2.1, .cells [.rs 4], .rows Riii v.2.2]⟩
def law32_SpreadNames_r3 (C : law32_SpreadNames_C) (v : law32_SpreadNames_Y2) : Dt law32_SpreadNames_Y3 := (Dt.ret (v.1, v.2, ([((3:Int), (5:Int), (-7:Int), ())] : List Diii)))
theorem law32_SpreadNames_g3 (C : law32_SpreadNames_C) (v : law32_SpreadNames_Y2) : treg tysT (orc (law32_SpreadNames_tab C)) 238 (regO (bodyOf f3) 3) false [(1, (.box [.val Riii])), (2, (.box [.own Riii])), (3, (.box [.own Riii]))] (law32_SpreadNames_S2 v) some = (law32_SpreadNames_r3 C v).eval fun y => some (law32_SpreadNames_S3 y) := by kernel_rfl
abbrev law32_SpreadNames_Y4 : Type := Int × List Diii × List Diii × List Diii
def law32_SpreadNames_S4 (v : law32_SpreadNames_Y4) : St := ⟨[(1, .ptr 0 0), (2, .ptr 1 0), (3, .ptr 3 0), (6, .int .i64 v.1)], [.cells [.fz Riii v.2.1], .cells [.rs 2], .rows Riii v.2.2.1, .cells [.rs 4], .rows Riii v.2.2.2]⟩
def law32_SpreadNames_r4 (C : law32_SpreadNames_C) (v : law32_SpreadNames_Y3) : Dt law32_SpreadNames_Y4 := (Dt.bnd (C.2.1 (((0:Int), ()), ())) fun r1 => (Dt.bnd (C.1 ((v.1, ()), (r1.1, r1.2, ()), ())) fun r2 => (Dt.ret (r2.2.2, v.1, v.2.1, v.2.2))))
theorem law32_SpreadNames_g4 (C : law32_SpreadNames_C) (v : law32_SpreadNames_Y3) : treg tysT (orc (law32_SpreadNames_tab C)) 238 (regO (bodyOf f3) 4) true [(1, (.box [.val Riii])), (2, (.box [.own Riii])), (3, (.box [.own Riii])), (6, .any)] (law32_SpreadNames_S3 v) some = (law32_SpreadNames_r4 C v).eval fun y => some (law32_SpreadNames_S4 y) := by kernel_rfl
abbrev law32_SpreadNames_Y5 : Type := Int × Int × List Diii × List Diii × List Diii
def law32_SpreadNames_S5 (v : law32_SpreadNames_Y5) : St := ⟨[(1, .ptr 0 0), (2, .ptr 1 0), (3, .ptr 3 0), (6, .int .i64 v.1), (8, .int .i64 v.2.1)], [.cells [.fz Riii v.2.2.1], .cells [.rs 2], .rows Riii v.2.2.2.1, .cells [.rs 4], .rows Riii v.2.2.2.2]⟩
def law32_SpreadNames_r5 (C : law32_SpreadNames_C) (v : law32_SpreadNames_Y4) : Dt law32_SpreadNames_Y5 := (Dt.bnd (C.2.2.1 ((v.2.1, ()), ((0:Int), (0:Int), ()), ())) fun r1 => (Dt.ret (v.1, r1.2.2, v.2.1, v.2.2.1, v.2.2.2)))
theorem law32_SpreadNames_g5 (C : law32_SpreadNames_C) (v : law32_SpreadNames_Y4) : treg tysT (orc (law32_SpreadNames_tab C)) 238 (regO (bodyOf f3) 5) false [(1, (.box [.val Riii])), (2, (.box [.own Riii])), (3, (.box [.own Riii])), (6, .any), (8, .any)] (law32_SpreadNames_S4 v) some = (law32_SpreadNames_r5 C v).eval fun y => some (law32_SpreadNames_S5 y) := by kernel_rfl
abbrev law32_SpreadNames_Y6 : Type := Int × Int × Int × List Diii × List Diii
def law32_SpreadNames_S6 (v : law32_SpreadNames_Y6) : St := ⟨[(1, .ptr 0 0), (3, .ptr 1 0), (6, .int .i64 v.1), (8, .int .i64 v.2.1), (10, .int .i64 v.2.2.1)], [.cells [.fz Riii v.2.2.2.1], .cells [.rs 2], .rows Riii v.2.2.2.2]⟩
def law32_SpreadNames_r6 (C : law32_SpreadNames_C) (v : law32_SpreadNames_Y5) : Dt law32_SpreadNames_Y6 := (Dt.bnd (C.2.2.2.1 ((v.2.2.2.1, ()), ((0:Int), (0:Int), ()), ())) fun r1 => (Dt.ret (v.1, v.2.1, r1.2, v.2.2.1, v.2.2.2.2)))
theorem law32_SpreadNames_g6 (C : law32_SpreadNames_C) (v : law32_SpreadNames_Y5) : treg tysT (orc (law32_SpreadNames_tab C)) 238 (regO (bodyOf f3) 6) false [(1, (.box [.val Riii])), (3, (.box [.own Riii])), (6, .any), (8, .any), (10, .any)] (law32_SpreadNames_S5 v) some = (law32_SpreadNames_r6 C v).eval fun y => some (law32_SpreadNames_S6 y) := by kernel_rfl
abbrev law32_SpreadNames_Y7 : Type := Int × Int × Int × Int × List Diii × List Diii
def law32_SpreadNames_S7 (v : law32_SpreadNames_Y7) : St := ⟨[(1, .ptr 0 0), (3, .ptr 1 0), (6, .int .i64 v.1), (8, .int .i64 v.2.1), (10, .int .i64 v.2.2.1), (12, .int .i64 v.2.2.2.1)], [.cells [.fz Riii v.2.2.2.2.1], .cells [.rs 2], .rows Riii v.2.2.2.2.2]⟩
def law32_SpreadNames_r7 (C : law32_SpreadNames_C) (v : law32_SpreadNames_Y6) : Dt law32_SpreadNames_Y7 := (Dt.bnd (C.2.1 (((1:Int), ()), ())) fun r1 => (Dt.bnd (C.2.1 (((0:Int), ()), ())) fun r2 => (Dt.bnd (C.2.2.2.2.1 ((v.2.2.2.1, ()), (r1.1, r1.2, ()), (r2.1, r2.2, ()), ())) fun r3 => (Dt.ret (v.1, v.2.1, v.2.2.1, r3.2, v.2.2.2.1, v.2.2.2.2)))))
theorem law32_SpreadNames_g7 (C : law32_SpreadNames_C) (v : law32_SpreadNames_Y6) : treg tysT (orc (law32_SpreadNames_tab C)) 238 (regO (bodyOf f3) 7) true [(1, (.box [.val Riii])), (3, (.box [.own Riii])), (6, .any), (8, .any), (10, .any), (12, .any)] (law32_SpreadNames_S6 v) some = (law32_SpreadNames_r7 C v).eval fun y => some (law32_SpreadNames_S7 y) := by kernel_rfl
abbrev law32_SpreadNames_Y8 : Type := Int × Int × Int × Int × Int × List Diii × List Diii
def law32_SpreadNames_S8 (v : law32_SpreadNames_Y8) : St := ⟨[(1, .ptr 0 0), (3, .ptr 1 0), (6, .int .i64 v.1), (8, .int .i64 v.2.1), (10, .int .i64 v.2.2.1), (12, .int .i64 v.2.2.2.1), (14, .int .i64 v.2.2.2.2.1)], [.cells [.fz Riii v.2.2.2.2.2.1], .cells [.rs 2], .rows Riii v.2.2.2.2.2.2]⟩
def law32_SpreadNames_r8 (C : law32_SpreadNames_C) (v : law32_SpreadNames_Y7) : Dt law32_SpreadNames_Y8 := (Dt.bnd (C.2.1 (((0:Int), ()), ())) fun r1 => (Dt.bnd (C.2.2.2.2.1 ((v.2.2.2.2.1, ()), (r1.1, r1.2, ()), ((2:Int), (4:Int), ()), ())) fun r2 => (Dt.ret (v.1, v.2.1, v.2.2.1, v.2.2.2.1, r2.2, v.2.2.2.2.1, v.2.2.2.2.2))))
theorem law32_SpreadNames_g8 (C : law32_SpreadNames_C) (v : law32_SpreadNames_Y7) : treg tysT (orc (law32_SpreadNames_tab C)) 238 (regO (bodyOf f3) 8) true [(1, (.box [.val Riii])), (3, (.box [.own Riii])), (6, .any), (8, .any), (10, .any), (12, .any), (14, .any)] (law32_SpreadNames_S7 v) some = (law32_SpreadNames_r8 C v).eval fun y => some (law32_SpreadNames_S8 y) := by kernel_rfl
abbrev law32_SpreadNames_Y9 : Type := Int × Int × Int × Int × Int × Int × List Diii
def law32_SpreadNames_S9 (v : law32_SpreadNames_Y9) : St := ⟨[(3, .ptr 0 0), (6, .int .i64 v.1), (8, .int .i64 v.2.1), (10, .int .i64 v.2.2.1), (12, .int .i64 v.2.2.2.1), (14, .int .i64 v.2.2.2.2.1), (17, .int .i64 v.2.2.2.2.2.1)], [.cells [.rs 1], .rows Riii v.2.2.2.2.2.2]⟩
def law32_SpreadNames_r9 (C : law32_SpreadNames_C) (v : law32_SpreadNames_Y8) : Dt law32_SpreadNames_Y9 := (Dt.bnd (C.2.1 (((0:Int), ()), ())) fun r1 => (Dt.bnd (C.2.1 (((0:Int), ()), ())) fun r2 => (Dt.bnd (C.2.2.2.2.2.1 ((v.2.2.2.2.2.1, ()), (r1.1, r1.2, ()), (r2.1, r2.2, ()), ())) fun r3 => (Dt.ret (v.1, v.2.1, v.2.2.1, v.2.2.2.1, v.2.2.2.2.1, r3.2.2.2.2, v.2.2.2.2.2.2)))))
theorem law32_SpreadNames_g9 (C : law32_SpreadNames_C) (v : law32_SpreadNames_Y8) : treg tysT (orc (law32_SpreadNames_tab C)) 238 (regO (bodyOf f3) 9) true [(3, (.box [.own Riii])), (6, .any), (8, .any), (10, .any), (12, .any), (14, .any), (17, .any)] (law32_SpreadNames_S8 v) some = (law32_SpreadNames_r9 C v).eval fun y => some (law32_SpreadNames_S9 y) := by kernel_rfl
abbrev law32_SpreadNames_Y10 : Type := Int × Int × Int × Int × Int × Int × Int × List Diii
def law32_SpreadNames_S10 (v : law32_SpreadNames_Y10) : St := ⟨[(3, .ptr 0 0), (6, .int .i64 v.1), (8, .int .i64 v.2.1), (10, .int .i64 v.2.2.1), (12, .int .i64 v.2.2.2.1), (14, .int .i64 v.2.2.2.2.1), (17, .int .i64 v.2.2.2.2.2.1), (20, .int .i64 v.2.2.2.2.2.2.1)], [.cells [.rs 1], .rows Riii v.2.2.2.2.2.2.2]⟩
def law32_SpreadNames_r10 (C : law32_SpreadNames_C) (v : law32_SpreadNames_Y9) : Dt law32_SpreadNames_Y10 := (Dt.bnd (C.2.2.2.2.2.2.1 (())) fun r1 => (Dt.bnd (C.2.1 (((0:Int), ()), ())) fun r2 => (Dt.bnd (C.2.1 (((1:Int), ()), ())) fun r3 => (Dt.bnd (C.2.2.2.2.2.1 ((r1, ()), (r2.1, r2.2, ()), (r3.1, r3.2, ()), ())) fun r4 => (Dt.ret (v.1, v.2.1, v.2.2.1, v.2.2.2.1, v.2.2.2.2.1, v.2.2.2.2.2.1, r4.2.2.2.2, v.2.2.2.2.2.2))))))
theorem law32_SpreadNames_g10 (C : law32_SpreadNames_C) (v : law32_SpreadNames_Y9) : treg tysT (orc (law32_SpreadNames_tab C)) 238 (regO (bodyOf f3) 10) false [(3, (.box [.own Riii])), (6, .any), (8, .any), (10, .any), (12, .any), (14, .any), (17, .any), (20, .any)] (law32_SpreadNames_S9 v) some = (law32_SpreadNames_r10 C v).eval fun y => some (law32_SpreadNames_S10 y) := by kernel_rfl
abbrev law32_SpreadNames_Y11 : Type := Int × Int × Int × Int × Int × Int × Int × Int × Int × Int × List Diii
def law32_SpreadNames_S11 (v : law32_SpreadNames_Y11) : St := ⟨[(3, .ptr 0 0), (6, .int .i64 v.1), (8, .int .i64 v.2.1), (10, .int .i64 v.2.2.1), (12, .int .i64 v.2.2.2.1), (14, .int .i64 v.2.2.2.2.1), (17, .int .i64 v.2.2.2.2.2.1), (20, .int .i64 v.2.2.2.2.2.2.1), (21, .int .i64 v.2.2.2.2.2.2.2.1), (22, .int .i64 v.2.2.2.2.2.2.2.2.1), (23, .int .i64 v.2.2.2.2.2.2.2.2.2.1)], [.cells [.rs 1], .rows Riii v.2.2.2.2.2.2.2.2.2.2]⟩
def law32_SpreadNames_r11 (C : law32_SpreadNames_C) (v : law32_SpreadNames_Y10) : Dt law32_SpreadNames_Y11 := (Dt.bnd (C.2.1 (((9:Int), ()), ())) fun r1 => (Dt.bnd (C.1 ((v.2.2.2.2.2.2.2, ()), (r1.1, r1.2, ()), ())) fun r2 => (Dt.ret (v.1, v.2.1, v.2.2.1, v.2.2.2.1, v.2.2.2.2.1, v.2.2.2.2.2.1, v.2.2.2.2.2.2.1, r2.1, r2.2.1, r2.2.2, v.2.2.2.2.2.2.2))))
theorem law32_SpreadNames_g11 (C : law32_SpreadNames_C) (v : law32_SpreadNames_Y10) : treg tysT (orc (law32_SpreadNames_tab C)) 238 (regO (bodyOf f3) 11) true [(3, (.box [.own Riii])), (6, .any), (8, .any), (10, .any), (12, .any), (14, .any), (17, .any), (20, .any), (21, .any), (22, .any), (23, .any)] (law32_SpreadNames_S10 v) some = (law32_SpreadNames_r11 C v).eval fun y => some (law32_SpreadNames_S11 y) := by kernel_rfl
abbrev law32_SpreadNames_Y12 : Type := Int × Int × Int × Int × Int × Int × Int × Int × Int × Int × Int × List Diii × Int × Int
def law32_SpreadNames_S12 (v : law32_SpreadNames_Y12) : St := ⟨[(3, .ptr 0 0), (6, .int .i64 v.1), (8, .int .i64 v.2.1), (10, .int .i64 v.2.2.1), (12, .int .i64 v.2.2.2.1), (14, .int .i64 v.2.2.2.2.1), (17, .int .i64 v.2.2.2.2.2.1), (20, .int .i64 v.2.2.2.2.2.2.1), (21, .int .i64 v.2.2.2.2.2.2.2.1), (22, .int .i64 v.2.2.2.2.2.2.2.2.1), (23, .int .i64 v.2.2.2.2.2.2.2.2.2.1), (24, .ptr 2 0), (25, .int .i64 v.2.2.2.2.2.2.2.2.2.2.1)], [.cells [.rs 1], .rows Riii v.2.2.2.2.2.2.2.2.2.2.2.1, .cells [.int .i64 v.2.2.2.2.2.2.2.2.2.2.2.2.1, .int .i64 v.2.2.2.2.2.2.2.2.2.2.2.2.2]]⟩
def law32_SpreadNames_r12 (C : law32_SpreadNames_C) (v : law32_SpreadNames_Y11) : Dt law32_SpreadNames_Y12 := (Dt.bnd (C.2.1 (((9:Int), ()), ())) fun r1 => (Dt.bnd (C.2.2.1 ((v.2.2.2.2.2.2.2.2.2.2, ()), (r1.1, r1.2, ()), ())) fun r2 => (Dt.ret (v.1, v.2.1, v.2.2.1, v.2.2.2.1, v.2.2.2.2.1, v.2.2.2.2.2.1, v.2.2.2.2.2.2.1, v.2.2.2.2.2.2.2.1, v.2.2.2.2.2.2.2.2.1, v.2.2.2.2.2.2.2.2.2.1, r2.2.2, v.2.2.2.2.2.2.2.2.2.2, r2.1, r2.2.1))))
theorem law32_SpreadNames_g12 (C : law32_SpreadNames_C) (v : law32_SpreadNames_Y11) : treg tysT (orc (law32_SpreadNames_tab C)) 238 (regO (bodyOf f3) 12) true [(3, (.box [.own Riii])), (6, .any), (8, .any), (10, .any), (12, .any), (14, .any), (17, .any), (20, .any), (21, .any), (22, .any), (23, .any), (24, .any), (25, .any)] (law32_SpreadNames_S11 v) some = (law32_SpreadNames_r12 C v).eval fun y => some (law32_SpreadNames_S12 y) := by kernel_rfl
abbrev law32_SpreadNames_Y13 : Type := Int × Int × Int × Int × Int × Int × Int × Int × Int × Int × Int × Int × List Diii × Int × Int × List Dii
def law32_SpreadNames_S13 (v : law32_SpreadNames_Y13) : St := ⟨[(3, .ptr 0 0), (6, .int .i64 v.1), (8, .int .i64 v.2.1), (10, .int .i64 v.2.2.1), (12, .int .i64 v.2.2.2.1), (14, .int .i64 v.2.2.2.2.1), (17, .int .i64 v.2.2.2.2.2.1), (20, .int .i64 v.2.2.2.2.2.2.1), (21, .int .i64 v.2.2.2.2.2.2.2.1), (22, .int .i64 v.2.2.2.2.2.2.2.2.1), (23, .int .i64 v.2.2.2.2.2.2.2.2.2.1), (24, .ptr 2 0), (25, .int .i64 v.2.2.2.2.2.2.2.2.2.2.1), (26, .rs 3), (27, .int .i64 v.2.2.2.2.2.2.2.2.2.2.2.1)], [.cells [.rs 1], .rows Riii v.2.2.2.2.2.2.2.2.2.2.2.2.1, .cells [.int .i64 v.2.2.2.2.2.2.2.2.2.2.2.2.2.1, .int .i64 v.2.2.2.2.2.2.2.2.2.2.2.2.2.2.1], .rows Rii v.2.2.2.2.2.2.2.2.2.2.2.2.2.2.2]⟩
def law32_SpreadNames_r13 (C : law32_SpreadNames_C) (v : law32_SpreadNames_Y12) : Dt law32_SpreadNames_Y13 := (Dt.bnd (C.2.1 (((-9:Int), ()), ())) fun r1 => (Dt.bnd (C.2.1 (((9:Int), ()), ())) fun r2 => (Dt.bnd (C.2.2.2.2.1 ((v.2.2.2.2.2.2.2.2.2.2.2.1, ()), (r1.1, r1.2, ()), (r2.1, r2.2, ()), ())) fun r3 => (Dt.ret (v.1, v.2.1, v.2.2.1, v.2.2.2.1, v.2.2.2.2.1, v.2.2.2.2.2.1, v.2.2.2.2.2.2.1, v.2.2.2.2.2.2.2.1, v.2.2.2.2.2.2.2.2.1, v.2.2.2.2.2.2.2.2.2.1, v.2.2.2.2.2.2.2.2.2.2.1, r3.2, v.2.2.2.2.2.2.2.2.2.2.2.1, v.2.2.2.2.2.2.2.2.2.2.2.2.1, v.2.2.2.2.2.2.2.2.2.2.2.2.2, r3.1)))))
theorem law32_SpreadNames_g13 (C : law32_SpreadNames_C) (v : law32_SpreadNames_Y12) : treg tysT (orc (law32_SpreadNames_tab C)) 238 (regO (bodyOf f3) 13) true [(3, (.box [.own Riii])), (6, .any), (8, .any), (10, .any), (12, .any), (14, .any), (17, .any), (20, .any), (21, .any), (22, .any), (23, .any), (24, .any), (25, .any), (26, (.own Rii)), (27, .any)] (law32_SpreadNames_S12 v) some = (law32_SpreadNames_r13 C v).eval fun y => some (law32_SpreadNames_S13 y) := by kernel_rfl
abbrev law32_SpreadNames_Y14 : Type := Int × Int × Int × Int × Int × Int × Int × Int × Int × Int × Int × Int × Int × Int × Int × List Dii × Int × Int × Int × Int
def law32_SpreadNames_S14 (v : law32_SpreadNames_Y14) : St := ⟨[(6, .int .i64 v.1), (8, .int .i64 v.2.1), (10, .int .i64 v.2.2.1), (12, .int .i64 v.2.2.2.1), (14, .int .i64 v.2.2.2.2.1), (17, .int .i64 v.2.2.2.2.2.1), (20, .int .i64 v.2.2.2.2.2.2.1), (21, .int .i64 v.2.2.2.2.2.2.2.1), (22, .int .i64 v.2.2.2.2.2.2.2.2.1), (23, .int .i64 v.2.2.2.2.2.2.2.2.2.1), (24, .ptr 0 0), (25, .int .i64 v.2.2.2.2.2.2.2.2.2.2.1), (26, .rs 1), (27, .int .i64 v.2.2.2.2.2.2.2.2.2.2.2.1), (28, .ptr 2 0), (29, .ptr 3 0), (30, .int .i64 v.2.2.2.2.2.2.2.2.2.2.2.2.1)], [.cells [.int .i64 v.2.2.2.2.2.2.2.2.2.2.2.2.2.1, .int .i64 v.2.2.2.2.2.2.2.2.2.2.2.2.2.2.1], .rows Rii v.2.2.2.2.2.2.2.2.2.2.2.2.2.2.2.1, .cells [.int .i64 v.2.2.2.2.2.2.2.2.2.2.2.2.2.2.2.2.1, .int .i64 v.2.2.2.2.2.2.2.2.2.2.2.2.2.2.2.2.2.1], .cells [.int .i64 v.2.2.2.2.2.2.2.2.2.2.2.2.2.2.2.2.2.2.1, .int .i64 v.2.2.2.2.2.2.2.2.2.2.2.2.2.2.2.2.2.2.2]]⟩
def law32_SpreadNames_r14 (C : law32_SpreadNames_C) (v : law32_SpreadNames_Y13) : Dt law32_SpreadNames_Y14 := (Dt.bnd (C.2.1 (((-9:Int), ()), ())) fun r1 => (Dt.bnd (C.2.1 (((9:Int), ()), ())) fun r2 => (Dt.bnd (C.2.2.2.2.2.1 ((v.2.2.2.2.2.2.2.2.2.2.2.2.1, ()), (r1.1, r1.2, ()), (r2.1, r2.2, ()), ())) fun r3 => (Dt.ret (v.1, v.2.1, v.2.2.1, v.2.2.2.1, v.2.2.2.2.1, v.2.2.2.2.2.1, v.2.2.2.2.2.2.1, v.2.2.2.2.2.2.2.1, v.2.2.2.2.2.2.2.2.1, v.2.2.2.2.2.2.2.2.2.1, v.2.2.2.2.2.2.2.2.2.2.1, v.2.2.2.2.2.2.2.2.2.2.2.1, r3.2.2.2.2, v.2.2.2.2.2.2.2.2.2.2.2.2.2.1, v.2.2.2.2.2.2.2.2.2.2.2.2.2.2.1, v.2.2.2.2.2.2.2.2.2.2.2.2.2.2.2, r3.1, r3.2.1, r3.2.2.1, r3.2.2.2.1)))))
theorem law32_SpreadNames_g14 (C : law32_SpreadNames_C) (v : law32_SpreadNames_Y13) : treg tysT (orc (law32_SpreadNames_tab C)) 238 (regO (bodyOf f3) 14) true [(6, .any), (8, .any), (10, .any), (12, .any), (14, .any), (17, .any), (20, .any), (21, .any), (22, .any), (23, .any), (24, .any), (25, .any), (26, (.own Rii)), (27, .any), (28, .any), (29, .any), (30, .any)] (law32_SpreadNames_S13 v) some = (law32_SpreadNames_r14 C v).eval fun y => some (law32_SpreadNames_S14 y) := by kernel_rfl
abbrev law32_SpreadNames_Y15 : Type := Int × Int × Int × Int × Int × Int × Int × Int × Int × Int × Int × Int × Int × Int × Int × List Dii × Int × Int × Int × Int × List Diii
def law32_SpreadNames_S15 (v : law32_SpreadNames_Y15) : St := ⟨[(6, .int .i64 v.1), (8, .int .i64 v.2.1), (10, .int .i64 v.2.2.1), (12, .int .i64 v.2.2.2.1), (14, .int .i64 v.2.2.2.2.1), (17, .int .i64 v.2.2.2.2.2.1), (20, .int .i64 v.2.2.2.2.2.2.1), (21, .int .i64 v.2.2.2.2.2.2.2.1), (22, .int .i64 v.2.2.2.2.2.2.2.2.1), (23, .int .i64 v.2.2.2.2.2.2.2.2.2.1), (24, .ptr 0 0), (25, .int .i64 v.2.2.2.2.2.2.2.2.2.2.1), (26, .rs 1), (27, .int .i64 v.2.2.2.2.2.2.2.2.2.2.2.1), (28, .ptr 2 0), (29, .ptr 3 0), (30, .int .i64 v.2.2.2.2.2.2.2.2.2.2.2.2.1), (31, .ptr 4 0)], [.cells [.int .i64 v.2.2.2.2.2.2.2.2.2.2.2.2.2.1, .int .i64 v.2.2.2.2.2.2.2.2.2.2.2.2.2.2.1], .rows Rii v.2.2.2.2.2.2.2.2.2.2.2.2.2.2.2.1, .cells [.int .i64 v.2.2.2.2.2.2.2.2.2.2.2.2.2.2.2.2.1, .int .i64 v.2.2.2.2.2.2.2.2.2.2.2.2.2.2.2.2.2.1], .cells [.int .i64 v.2.2.2.2.2.2.2.2.2.2.2.2.2.2.2.2.2.2.1, .int .i64 v.2.2.2.2.2.2.2.2.2.2.2.2.2.2.2.2.2.2.2.1], .cells [.rs 5], .rows Riii v.2.2.2.2.2.2.2.2.2.2.2.2.2.2.2.2.2.2.2.2]⟩
def law32_SpreadNames_r15 (C : law32_SpreadNames_C) (v : law32_SpreadNames_Y14) : Dt law32_SpreadNames_Y15 := (Dt.ret (v.1, v.2.1, v.2.2.1, v.2.2.2.1, v.2.2.2.2.1, v.2.2.2.2.2.1, v.2.2.2.2.2.2.1, v.2.2.2.2.2.2.2.1, v.2.2.2.2.2.2.2.2.1, v.2.2.2.2.2.2.2.2.2.1, v.2.2.2.2.2.2.2.2.2.2.1, v.2.2.2.2.2.2.2.2.2.2.2.1, v.2.2.2.2.2.2.2.2.2.2.2.2.1, v.2.2.2.2.2.2.2.2.2.2.2.2.2.1, v.2.2.2.2.2.2.2.2.2.2.2.2.2.2.1, v.2.2.2.2.2.2.2.2.2.2.2.2.2.2.2.1, v.2.2.2.2.2.2.2.2.2.2.2.2.2.2.2.2.1, v.2.2.2.2.2.2.2.2.2.2.2.2.2.2.2.2.2.1, v.2.2.2.2.2.2.2.2.2.2.2.2.2.2.2.2.2.2.1, v.2.2.2.2.2.2.2.2.2.2.2.2.2.2.2.2.2.2.2, ([((1:Int), (0:Int), (1048576:Int), ()), ((2:Int), (0:Int), (-1048576:Int), ())] : List Diii)))
theorem law32_SpreadNames_g15 (C : law32_SpreadNames_C) (v : law32_SpreadNames_Y14) : treg tysT (orc (law32_SpreadNames_tab C)) 238 (regO (bodyOf f3) 15) false [(6, .any), (8, .any), (10, .any), (12, .any), (14, .any), (17, .any), (20, .any), (21, .any), (22, .any), (23, .any), (24, .any), (25, .any), (26, (.own Rii)), (27, .any), (28, .any), (29, .any), (30, .any), (31, (.box [.own Riii]))] (law32_SpreadNames_S14 v) some = (law32_SpreadNames_r15 C v).eval fun y => some (law32_SpreadNames_S15 y) := by kernel_rfl
abbrev law32_SpreadNames_Y16 : Type := Int × Int × Int × Int × Int × Int × Int × Int × Int × Int × Int × Int × Int × Int × Int × Int × List Dii × Int × Int × Int × Int × List Diii
def law32_SpreadNames_S16 (v : law32_SpreadNames_Y16) : St := ⟨[(6, .int .i64 v.1), (8, .int .i64 v.2.1), (10, .int .i64 v.2.2.1), (12, .int .i64 v.2.2.2.1), (14, .int .i64 v.2.2.2.2.1), (17, .int .i64 v.2.2.2.2.2.1), (20, .int .i64 v.2.2.2.2.2.2.1), (21, .int .i64 v.2.2.2.2.2.2.2.1), (22, .int .i64 v.2.2.2.2.2.2.2.2.1), (23, .int .i64 v.2.2.2.2.2.2.2.2.2.1), (24, .ptr 0 0), (25, .int .i64 v.2.2.2.2.2.2.2.2.2.2.1), (26, .rs 1), (27, .int .i64 v.2.2.2.2.2.2.2.2.2.2.2.1), (28, .ptr 2 0), (29, .ptr 3 0), (30, .int .i64 v.2.2.2.2.2.2.2.2.2.2.2.2.1), (31, .ptr 4 0), (33, .int .i64 v.2.2.2.2.2.2.2.2.2.2.2.2.2.1)], [.cells [.int .i64 v.2.2.2.2.2.2.2.2.2.2.2.2.2.2.1, .int .i64 v.2.2.2.2.2.2.2.2.2.2.2.2.2.2.2.1], .rows Rii v.2.2.2.2.2.2.2.2.2.2.2.2.2.2.2.2.1, .cells [.int .i64 v.2.2.2.2.2.2.2.2.2.2.2.2.2.2.2.2.2.1, .int .i64 v.2.2.2.2.2.2.2.2.2.2.2.2.2.2.2.2.2.2.1], .cells [.int .i64 v.2.2.2.2.2.2.2.2.2.2.2.2.2.2.2.2.2.2.2.1, .int .i64 v.2.2.2.2.2.2.2.2.2.2.2.2.2.2.2.2.2.2.2.2.1], .cells [.rs 5], .rows Riii v.2.2.2.2.2.2.2.2.2.2.2.2.2.2.2.2.2.2.2.2.2]⟩
def law32_SpreadNames_r16 (C : law32_SpreadNames_C) (v : law32_SpreadNames_Y15) : Dt law32_SpreadNames_Y16 := (Dt.bnd (C.2.1 (((1125899906842624:Int), ()), ())) fun r1 => (Dt.bnd (C.2.2.1 ((v.2.2.2.2.2.2.2.2.2.2.2.2.2.2.2.2.2.2.2.2, ()), (r1.1, r1.2, ()), ())) fun r2 => (Dt.ret (v.1, v.2.1, v.2.2.1, v.2.2.2.1, v.2.2.2.2.1, v.2.2.2.2.2.1, v.2.2.2.2.2.2.1, v.2.2.2.2.2.2.2.1, v.2.2.2.2.2.2.2.2.1, v.2.2.2.2.2.2.2.2.2.1, v.2.2.2.2.2.2.2.2.2.2.1, v.2.2.2.2.2.2.2.2.2.2.2.1, v.2.2.2.2.2.2.2.2.2.2.2.2.1, r2.2.2, v.2.2.2.2.2.2.2.2.2.2.2.2.2.1, v.2.2.2.2.2.2.2.2.2.2.2.2.2.2.1, v.2.2.2.2.2.2.2.2.2.2.2.2.2.2.2.1, v.2.2.2.2.2.2.2.2.2.2.2.2.2.2.2.2.1, v.2.2.2.2.2.2.2.2.2.2.2.2.2.2.2.2.2.1, v.2.2.2.2.2.2.2.2.2.2.2.2.2.2.2.2.2.2.1, v.2.2.2.2.2.2.2.2.2.2.2.2.2.2.2.2.2.2.2.1, v.2.2.2.2.2.2.2.2.2.2.2.2.2.2.2.2.2.2.2.2))))
theorem law32_SpreadNames_g16 (C : law32_SpreadNames_C) (v : law32_SpreadNames_Y15) : treg tysT (orc (law32_SpreadNames_tab C)) 238 (regO (bodyOf f3) 16) true [(6, .any), (8, .any), (10, .any), (12, .any), (14, .any), (17, .any), (20, .any), (21, .any), (22, .any), (23, .any), (24, .any), (25, .any), (26, (.own Rii)), (27, .any), (28, .any), (29, .any), (30, .any), (31, (.box [.own Riii])), (33, .any)] (law32_SpreadNames_S15 v) some = (law32_SpreadNames_r16 C v).eval fun y => some (law32_SpreadNames_S16 y) := by kernel_rfl
abbrev law32_SpreadNames_Y17 : Type := Int × Int × Int × Int × Int × Int × Int × Int × Int × Int × Int × Int × Int × Int × Int × Int × Int × List Dii × Int × Int × Int × Int × List Diii
def law32_SpreadNames_S17 (v : law32_SpreadNames_Y17) : St := ⟨[(6, .int .i64 v.1), (8, .int .i64 v.2.1), (10, .int .i64 v.2.2.1), (12, .int .i64 v.2.2.2.1), (14, .int .i64 v.2.2.2.2.1), (17, .int .i64 v.2.2.2.2.2.1), (20, .int .i64 v.2.2.2.2.2.2.1), (21, .int .i64 v.2.2.2.2.2.2.2.1), (22, .int .i64 v.2.2.2.2.2.2.2.2.1), (23, .int .i64 v.2.2.2.2.2.2.2.2.2.1), (24, .ptr 0 0), (25, .int .i64 v.2.2.2.2.2.2.2.2.2.2.1), (26, .rs 1), (27, .int .i64 v.2.2.2.2.2.2.2.2.2.2.2.1), (28, .ptr 2 0), (29, .ptr 3 0), (30, .int .i64 v.2.2.2.2.2.2.2.2.2.2.2.2.1), (31, .ptr 4 0), (33, .int .i64 v.2.2.2.2.2.2.2.2.2.2.2.2.2.1), (36, .int .i64 v.2.2.2.2.2.2.2.2.2.2.2.2.2.2.1)], [.cells [.int .i64 v.2.2.2.2.2.2.2.2.2.2.2.2.2.2.2.1, .int .i64 v.2.2.2.2.2.2.2.2.2.2.2.2.2.2.2.2.1], .rows Rii v.2.2.2.2.2.2.2.2.2.2.2.2.2.2.2.2.2.1, .cells [.int .i64 v.2.2.2.2.2.2.2.2.2.2.2.2.2.2.2.2.2.2.1, .int .i64 v.2.2.2.2.2.2.2.2.2.2.2.2.2.2.2.2.2.2.2.1], .cells [.int .i64 v.2.2.2.2.2.2.2.2.2.2.2.2.2.2.2.2.2.2.2.2.1, .int .i64 v.2.2.2.2.2.2.2.2.2.2.2.2.2.2.2.2.2.2.2.2.2.1], .cells [.rs 5], .rows Riii v.2.2.2.2.2.2.2.2.2.2.2.2.2.2.2.2.2.2.2.2.2.2]⟩
def law32_SpreadNames_r17 (C : law32_SpreadNames_C) (v : law32_SpreadNames_Y16) : Dt law32_SpreadNames_Y17 := (Dt.bnd (C.2.1 (((1125899906842624:Int), ()), ())) fun r1 => (Dt.bnd (C.2.1 (((2251799813685248:Int), ()), ())) fun r2 => (Dt.bnd (C.2.2.2.2.2.1 ((v.2.2.2.2.2.2.2.2.2.2.2.2.2.2.2.2.2.2.2.2.2, ()), (r1.1, r1.2, ()), (r2.1, r2.2, ()), ())) fun r3 => (Dt.ret (v.1, v.2.1, v.2.2.1, v.2.2.2.1, v.2.2.2.2.1, v.2.2.2.2.2.1, v.2.2.2.2.2.2.1, v.2.2.2.2.2.2.2.1, v.2.2.2.2.2.2.2.2.1, v.2.2.2.2.2.2.2.2.2.1, v.2.2.2.2.2.2.2.2.2.2.1, v.2.2.2.2.2.2.2.2.2.2.2.1, v.2.2.2.2.2.2.2.2.2.2.2.2.1, v.2.2.2.2.2.2.2.2.2.2.2.2.2.1, r3.2.2.2.2, v.2.2.2.2.2.2.2.2.2.2.2.2.2.2.1, v.2.2.2.2.2.2.2.2.2.2.2.2.2.2.2.1, v.2.2.2.2.2.2.2.2.2.2.2.2.2.2.2.2.1, v.2.2.2.2.2.2.2.2.2.2.2.2.2.2.2.2.2.1, v.2.2.2.2.2.2.2.2.2.2.2.2.2.2.2.2.2.2.1, v.2.2.2.2.2.2.2.2.2.2.2.2.2.2.2.2.2.2.2.1, v.2.2.2.2.2.2.2.2.2.2.2.2.2.2.2.2.2.2.2.2.1, v.2.2.2.2.2.2.2.2.2.2.2.2.2.2.2.2.2.2.2.2.2)))))
theorem law32_SpreadNames_g17 (C : law32_SpreadNames_C) (v : law32_SpreadNames_Y16) : treg tysT (orc (law32_SpreadNames_tab C)) 238 (regO (bodyOf f3) 17) true [(6, .any), (8, .any), (10, .any), (12, .any), (14, .any), (17, .any), (20, .any), (21, .any), (22, .any), (23, .any), (24, .any), (25, .any), (26, (.own Rii)), (27, .any), (28, .any), (29, .any), (30, .any), (31, (.box [.own Riii])), (33, .any), (36, .any)] (law32_SpreadNames_S16 v) some = (law32_SpreadNames_r17 C v).eval fun y => some (law32_SpreadNames_S17 y) := by kernel_rfl
abbrev law32_SpreadNames_Y18 : Type := Int × Int × Int × Int × Int × Int × Int × Int × Int × Int × Int × Int × Int × Int × Int × Int × Int × Int × Int × List Dii × Int × Int × Int × Int
def law32_SpreadNames_S18 (v : law32_SpreadNames_Y18) : St := ⟨[(6, .int .i64 v.1), (8, .int .i64 v.2.1), (10, .int .i64 v.2.2.1), (12, .int .i64 v.2.2.2.1), (14, .int .i64 v.2.2.2.2.1), (17, .int .i64 v.2.2.2.2.2.1), (20, .int .i64 v.2.2.2.2.2.2.1), (21, .int .i64 v.2.2.2.2.2.2.2.1), (22, .int .i64 v.2.2.2.2.2.2.2.2.1), (23, .int .i64 v.2.2.2.2.2.2.2.2.2.1), (24, .ptr 0 0), (25, .int .i64 v.2.2.2.2.2.2.2.2.2.2.1), (26, .rs 1), (27, .int .i64 v.2.2.2.2.2.2.2.2.2.2.2.1), (28, .ptr 2 0), (29, .ptr 3 0), (30, .int .i64 v.2.2.2.2.2.2.2.2.2.2.2.2.1), (33, .int .i64 v.2.2.2.2.2.2.2.2.2.2.2.2.2.1), (36, .int .i64 v.2.2.2.2.2.2.2.2.2.2.2.2.2.2.1), (37, .int .i64 v.2.2.2.2.2.2.2.2.2.2.2.2.2.2.2.1), (38, .int .i64 v.2.2.2.2.2.2.2.2.2.2.2.2.2.2.2.2.1)], [.cells [.int .i64 v.2.2.2.2.2.2.2.2.2.2.2.2.2.2.2.2.2.1, .int .i64 v.2.2.2.2.2.2.2.2.2.2.2.2.2.2.2.2.2.2.1], .rows Rii v.2.2.2.2.2.2.2.2.2.2.2.2.2.2.2.2.2.2.2.1, .cells [.int .i64 v.2.2.2.2.2.2.2.2.2.2.2.2.2.2.2.2.2.2.2.2.1, .int .i64 v.2.2.2.2.2.2.2.2.2.2.2.2.2.2.2.2.2.2.2.2.2.1], .cells [.int .i64 v.2.2.2.2.2.2.2.2.2.2.2.2.2.2.2.2.2.2.2.2.2.2.1, .int .i64 v.2.2.2.2.2.2.2.2.2.2.2.2.2.2.2.2.2.2.2.2.2.2.2]]⟩
def law32_SpreadNames_r18 (C : law32_SpreadNames_C) (v : law32_SpreadNames_Y17) : Dt law32_SpreadNames_Y18 := (Dt.bnd (C.2.1 (((1125899906842624:Int), ()), ())) fun r1 => (Dt.bnd (C.2.2.2.1 ((v.2.2.2.2.2.2.2.2.2.2.2.2.2.2.2.2.2.2.2.2.2.2, ()), (r1.1, r1.2, ()), ())) fun r2 => (Dt.ret (v.1, v.2.1, v.2.2.1, v.2.2.2.1, v.2.2.2.2.1, v.2.2.2.2.2.1, v.2.2.2.2.2.2.1, v.2.2.2.2.2.2.2.1, v.2.2.2.2.2.2.2.2.1, v.2.2.2.2.2.2.2.2.2.1, v.2.2.2.2.2.2.2.2.2.2.1, v.2.2.2.2.2.2.2.2.2.2.2.1, v.2.2.2.2.2.2.2.2.2.2.2.2.1, v.2.2.2.2.2.2.2.2.2.2.2.2.2.1, v.2.2.2.2.2.2.2.2.2.2.2.2.2.2.1, r2.1, r2.2, v.2.2.2.2.2.2.2.2.2.2.2.2.2.2.2.1, v.2.2.2.2.2.2.2.2.2.2.2.2.2.2.2.2.1, v.2.2.2.2.2.2.2.2.2.2.2.2.2.2.2.2.2.1, v.2.2.2.2.2.2.2.2.2.2.2.2.2.2.2.2.2.2.1, v.2.2.2.2.2.2.2.2.2.2.2.2.2.2.2.2.2.2.2.1, v.2.2.2.2.2.2.2.2.2.2.2.2.2.2.2.2.2.2.2.2.1, v.2.2.2.2.2.2.2.2.2.2.2.2.2.2.2.2.2.2.2.2.2.1))))
theorem law32_SpreadNames_g18 (C : law32_SpreadNames_C) (v : law32_SpreadNames_Y17) : treg tysT (orc (law32_SpreadNames_tab C)) 238 (regO (bodyOf f3) 18) true [(6, .any), (8, .any), (10, .any), (12, .any), (14, .any), (17, .any), (20, .any), (21, .any), (22, .any), (23, .any), (24, .any), (25, .any), (26, (.own Rii)), (27, .any), (28, .any), (29, .any), (30, .any), (33, .any), (36, .any), (37, .any), (38, .any)] (law32_SpreadNames_S17 v) some = (law32_SpreadNames_r18 C v).eval fun y => some (law32_SpreadNames_S18 y) := by kernel_rfl
abbrev law32_SpreadNames_Y19 : Type := Bool
def law32_SpreadNames_S19 (v : law32_SpreadNames_Y19) : St := ⟨[(0, .bool v)], []⟩
def law32_SpreadNames_r19 (C : law32_SpreadNames_C) (v : law32_SpreadNames_Y18) : Dt law32_SpreadNames_Y19 := (Dt.bnd (C.2.2.2.2.2.2.2.1 (())) fun r1 => (Dt.ite r1 (Dt.ite (v.1 == (42:Int)) (Dt.ite (v.2.1 == (8:Int)) (Dt.ite (v.2.2.1 == (8:Int)) (Dt.ite (v.2.2.2.1 == (2:Int)) (Dt.ite (v.2.2.2.2.1 == (8:Int)) (Dt.ite (v.2.2.2.2.2.1 == (42:Int)) (Dt.ite (v.2.2.2.2.2.2.1 == (32:Int)) (Dt.ite (v.2.2.2.2.2.2.2.2.2.1 == (0:Int)) (Dt.ite (v.2.2.2.2.2.2.2.1 == (3:Int)) (Dt.ite (v.2.2.2.2.2.2.2.2.1 == (3:Int)) (Dt.ite (v.2.2.2.2.2.2.2.2.2.2.1 == (0:Int)) (Dt.bnd (C.2.1 (((0:Int), ()), ())) fun r2 => (Dt.ite ((v.2.2.2.2.2.2.2.2.2.2.2.2.2.2.2.2.2.1 == r2.1) && ((v.2.2.2.2.2.2.2.2.2.2.2.2.2.2.2.2.2.2.1 == r2.2) && true)) (Dt.ite (v.2.2.2.2.2.2.2.2.2.2.2.1 == (0:Int)) (Dt.ite ((List.length v.2.2.2.2.2.2.2.2.2.2.2.2.2.2.2.2.2.2.2.1 : Int) == (0:Int)) (Dt.ite (v.2.2.2.2.2.2.2.2.2.2.2.2.1 == (0:Int)) (Dt.bnd (C.2.1 (((-9:Int), ()), ())) fun r3 => (Dt.ite ((v.2.2.2.2.2.2.2.2.2.2.2.2.2.2.2.2.2.2.2.2.1 == r3.1) && ((v.2.2.2.2.2.2.2.2.2.2.2.2.2.2.2.2.2.2.2.2.2.1 == r3.2) && true)) (Dt.bnd (C.2.1 (((0:Int), ()), ())) fun r4 => (Dt.ite ((v.2.2.2.2.2.2.2.2.2.2.2.2.2.2.2.2.2.2.2.2.2.2.1 == r4.1) && ((v.2.2.2.2.2.2.2.2.2.2.2.2.2.2.2.2.2.2.2.2.2.2.2 == r4.2) && true)) (Dt.ite (v.2.2.2.2.2.2.2.2.2.2.2.2.2.1 == (16:Int)) (Dt.ite (v.2.2.2.2.2.2.2.2.2.2.2.2.2.2.1 == (16:Int)) (Dt.ite (v.2.2.2.2.2.2.2.2.2.2.2.2.2.2.2.2.1 == (0:Int)) (Dt.ret (v.2.2.2.2.2.2.2.2.2.2.2.2.2.2.2.1 == (2097152:Int))) (Dt.ret false)) (Dt.ret false)) (Dt.ret false)) (Dt.ret false))) (Dt.ret false))) (Dt.ret false)) (Dt.ret false)) (Dt.ret false)) (Dt.ret false))) (Dt.ret false)) (Dt.ret false)) (Dt.ret false)) (Dt.ret false)) (Dt.ret false)) (Dt.ret false)) (Dt.ret false)) (Dt.ret false)) (Dt.ret false)) (Dt.ret false)) (Dt.ret false)) (Dt.ret false)))
theorem law32_SpreadNames_g19 (C : law32_SpreadNames_C) (v : law32_SpreadNames_Y18) : treg tysT (orc (law32_SpreadNames_tab C)) 238 (regO (bodyOf f3) 19) true [(0, .any)] (law32_SpreadNames_S18 v) some = (law32_SpreadNames_r19 C v).eval fun y => some (law32_SpreadNames_S19 y) := by kernel_rfl
def F_law32_SpreadNames (d : Nat) (x : law32_SpreadNames_X) : Option law32_SpreadNames_R :=
  (law32_SpreadNames_r0 (law32_SpreadNames_K d) ()).eval fun y0 =>
  (law32_SpreadNames_r1 (law32_SpreadNames_K d) ()).eval fun y1 =>
  (law32_SpreadNames_r2 (law32_SpreadNames_K d) y1).eval fun y2 =>
  (law32_SpreadNames_r3 (law32_SpreadNames_K d) y2).eval fun y3 =>
  (law32_SpreadNames_r4 (law32_SpreadNames_K d) y3).eval fun y4 =>
  (law32_SpreadNames_r5 (law32_SpreadNames_K d) y4).eval fun y5 =>
  (law32_SpreadNames_r6 (law32_SpreadNames_K d) y5).eval fun y6 =>
  (law32_SpreadNames_r7 (law32_SpreadNames_K d) y6).eval fun y7 =>
  (law32_SpreadNames_r8 (law32_SpreadNames_K d) y7).eval fun y8 =>
  (law32_SpreadNames_r9 (law32_SpreadNames_K d) y8).eval fun y9 =>
  (law32_SpreadNames_r10 (law32_SpreadNames_K d) y9).eval fun y10 =>
  (law32_SpreadNames_r11 (law32_SpreadNames_K d) y10).eval fun y11 =>
  (law32_SpreadNames_r12 (law32_SpreadNames_K d) y11).eval fun y12 =>
  (law32_SpreadNames_r13 (law32_SpreadNames_K d) y12).eval fun y13 =>
  (law32_SpreadNames_r14 (law32_SpreadNames_K d) y13).eval fun y14 =>
  (law32_SpreadNames_r15 (law32_SpreadNames_K d) y14).eval fun y15 =>
  (law32_SpreadNames_r16 (law32_SpreadNames_K d) y15).eval fun y16 =>
  (law32_SpreadNames_r17 (law32_SpreadNames_K d) y16).eval fun y17 =>
  (law32_SpreadNames_r18 (law32_SpreadNames_K d) y17).eval fun y18 =>
  (law32_SpreadNames_r19 (law32_SpreadNames_K d) y18).eval fun y19 =>
  some y19
theorem law32_SpreadNames_cok (d : Nat) : COK prog (law32_SpreadNames_sp (F_law32_SpreadNames d)) := by
  have hm : prog.follows .mixedOrders = true := mixed
  have hT := tys
  have hC0 : OrcOK prog (orc (law32_SpreadNames_tab (law32_SpreadNames_K d))) := orc_ok (by
    intro S hS
    simp only [law32_SpreadNames_tab, List.mem_cons, List.not_mem_nil, or_false] at hS
    rcases hS with rfl | rfl | rfl | rfl | rfl | rfl | rfl | rfl
    · exact spread_Ends_cok d
    · exact law32_whole_cok d
    · exact spread_At_cok d
    · exact spread_Slope_cok d
    · exact spread_Turns_cok d
    · exact spread_Least_cok d
    · exact law32_make3_cok d
    · exact law32_alive_cok d)
  have hC : OrcOK prog (orc (law32_SpreadNames_tab (law32_SpreadNames_K d))) := hC0
  refine cok_of (c := bodyOf f3) (fn := f3) hT (by kernel_rfl) (by kernel_rfl) (by decide) fun x r h w0 φ0 Q hend => ?_
  replace h : F_law32_SpreadNames d x = some r := h
  unfold F_law32_SpreadNames at h
  show Run prog w0 φ0 238 (bodyOf f3) ⟨[], []⟩ Q
  refine run_seq ?_
  refine run_reg hm hT hC (law32_SpreadNames_g0 (law32_SpreadNames_K d) ()) h ?_
  intro y0 h
  refine cn_then ?_
  refine run_seq ?_
  refine run_reg hm hT hC (law32_SpreadNames_g1 (law32_SpreadNames_K d) ()) h ?_
  intro y1 h
  refine cn_then ?_
  refine run_seq ?_
  refine run_reg hm hT hC (law32_SpreadNames_g2 (law32_SpreadNames_K d) y1) h ?_
  intro y2 h
  refine cn_then ?_
  refine run_seq ?_
  refine run_reg hm hT hC (law32_SpreadNames_g3 (law32_SpreadNames_K d) y2) h ?_
  intro y3 h
  refine cn_then ?_
  refine run_seq ?_
  refine run_reg hm hT hC (law32_SpreadNames_g4 (law32_SpreadNames_K d) y3) h ?_
  intro y4 h
  refine cn_then ?_
  refine run_seq ?_
  refine run_reg hm hT hC (law32_SpreadNames_g5 (law32_SpreadNames_K d) y4) h ?_
  intro y5 h
  refine cn_then ?_
  refine run_seq ?_
  refine run_reg hm hT hC (law32_SpreadNames_g6 (law32_SpreadNames_K d) y5) h ?_
  intro y6 h
  refine cn_then ?_
  refine run_seq ?_
  refine run_reg hm hT hC (law32_SpreadNames_g7 (law32_SpreadNames_K d) y6) h ?_
  intro y7 h
  refine cn_then ?_
  refine run_seq ?_
  refine run_reg hm hT hC (law32_SpreadNames_g8 (law32_SpreadNames_K d) y7) h ?_
  intro y8 h
  refine cn_then ?_
  refine run_seq ?_
  refine run_reg hm hT hC (law32_SpreadNames_g9 (law32_SpreadNames_K d) y8) h ?_
  intro y9 h
  refine cn_then ?_
  refine run_seq ?_
  refine run_reg hm hT hC (law32_SpreadNames_g10 (law32_SpreadNames_K d) y9) h ?_
  intro y10 h
  refine cn_then ?_
  refine run_seq ?_
  refine run_reg hm hT hC (law32_SpreadNames_g11 (law32_SpreadNames_K d) y10) h ?_
  intro y11 h
  refine cn_then ?_
  refine run_seq ?_
  refine run_reg hm hT hC (law32_SpreadNames_g12 (law32_SpreadNames_K d) y11) h ?_
  intro y12 h
  refine cn_then ?_
  refine run_seq ?_
  refine run_reg hm hT hC (law32_SpreadNames_g13 (law32_SpreadNames_K d) y12) h ?_
  intro y13 h
  refine cn_then ?_
  refine run_seq ?_
  refine run_reg hm hT hC (law32_SpreadNames_g14 (law32_SpreadNames_K d) y13) h ?_
  intro y14 h
  refine cn_then ?_
  refine run_seq ?_
  refine run_reg hm hT hC (law32_SpreadNames_g15 (law32_SpreadNames_K d) y14) h ?_
  intro y15 h
  refine cn_then ?_
  refine run_seq ?_
  refine run_reg hm hT hC (law32_SpreadNames_g16 (law32_SpreadNames_K d) y15) h ?_
  intro y16 h
  refine cn_then ?_
  refine run_seq ?_
  refine run_reg hm hT hC (law32_SpreadNames_g17 (law32_SpreadNames_K d) y16) h ?_
  intro y17 h
  refine cn_then ?_
  refine run_seq ?_
  refine run_reg hm hT hC (law32_SpreadNames_g18 (law32_SpreadNames_K d) y17) h ?_
  intro y18 h
  refine cn_then ?_
  refine run_seq ?_
  refine run_reg hm hT hC (law32_SpreadNames_g19 (law32_SpreadNames_K d) y18) h ?_
  intro y19 h
  refine cn_then ?_
  refine run_ret ?_
  cases h
  exact (hend _ (by kernel_rfl)).2
end Go.Proofs.YtpojhcjdcbegiaaGreat

namespace Go
open Go.ChangeShapes Go.WideShapes Go.ChangeAt Go.RowKit
section
variable {H : Type} {enc : TypeId × Value → H} {P : Program} {w : World} {base : Nat} {spare : Nat → Bool} {held : Bool}
/-- a field of a struct -/
theorem field_at {t : TypeId} {fs : Array Field} {fuel : Nat} {cs : List Value} {x : DataW H × List MemPlace} (hs : P.underlying t = some (.struct fs)) (h : DataW.trod enc P w base spare held fuel t cs = some x)
    {i : Nat} {f : Field} (hf : fs[i]? = some f) {off n : Nat} {ft : TypeId} (ho : f.offset = off) (ht : f.type = ft) (hn : P.cellsOf ft = n) : ∃ m y, DataW.trod enc P w base spare held m ft ((cs.drop off).take n) = some y := by
  obtain ⟨xs, m, _, _, _, hlen, hg⟩ := DataW.trod_struct hs h
  have h1 := hg i f hf
  subst ho ht hn
  have hi : i < xs.length := by rw [hlen]; exact (Array.getElem?_eq_some_iff.1 hf).1
  exact ⟨m, xs[i], by rw [h1, List.getElem?_eq_getElem hi]⟩
theorem int_cell {t : TypeId} {k : IntKind} {fuel : Nat} {cs : List Value} {x : DataW H × List MemPlace} (ht : P.underlying t = some (.int k)) (h : DataW.trod enc P w base spare held fuel t cs = some x) : ∃ n, cs = [.int k n] ∧ (Lit.int k n).wf = true := by
  obtain ⟨n, h1, _, h2⟩ := DataW.trod_int ht h; exact ⟨n, h1, h2⟩
theorem wf_i64 {n : Int} (h : (Lit.int .i64 n).wf = true) : -9223372036854775808 ≤ n ∧ n ≤ 9223372036854775807 := bounds_i64 h
theorem wf_u8 {n : Int} (h : (Lit.int .u8 n).wf = true) : 0 ≤ n ∧ n ≤ 255 := bounds_u8 h
theorem bytes_of (zs : List Int) (h : ∀ n ∈ zs, (Lit.int .u8 n).wf = true) : ∃ l : List UInt8, zs = l.map fun x => (x.toNat : Int) := by
  induction zs with
  | nil => exact ⟨[], rfl⟩
  | cons z zs ih =>
    obtain ⟨l, rfl⟩ := ih (fun n hn => h n (List.mem_cons_of_mem _ hn))
    have hz := wf_u8 (h z (List.mem_cons_self ..))
    refine ⟨UInt8.ofNat z.toNat :: l, ?_⟩
    rw [List.map_cons]
    congr 1
    simp; omega
/-- bytes that came in -/
theorem arg_bytes {t e : TypeId} {fuel : Nat} {A : Option Addr} {n c : Nat} {x : DataW H × List MemPlace} (ht : P.underlying t = some (.slice e)) (he : P.underlying e = some (.int .u8)) (hc : P.cellsOf e = 1)
    (h : DataW.trod enc P w base (fun _ => true) held fuel t [Value.slice A n c] = some x) : ∃ l : List UInt8, l.length = n ∧ Sl w 1 A l.length c (vb l) := by
  rcases open_ints ht he hc h with ⟨hcs, _⟩ | ⟨a, len, cap, zs, hcs, _, hl, hm, hz, _, hcell, hwz⟩
  · simp only [List.cons.injEq, and_true] at hcs
    injection hcs with h1 h2 h3
    subst h1 h2 h3
    exact ⟨[], rfl, Sl.nil_ _ _ _ _⟩
  · simp only [List.cons.injEq, and_true] at hcs
    injection hcs with h1 h2 h3
    subst h1 h2 h3
    have hz' : zs.length = c := by simpa using hz
    obtain ⟨l, hl'⟩ := bytes_of (zs.take n) (fun m hm => hwz m (List.mem_of_mem_take hm))
    have hlen : l.length = n := by
      have := congrArg List.length hl'
      rw [List.length_take, List.length_map] at this; omega
    refine ⟨l, hlen, by omega, by rw [vb_length]; omega, fun hn => ?_⟩
    obtain ⟨b, o, spot⟩ := a
    have h0 := hcell 0 (by omega)
    have hspot : spot = none := by simpa [Addr.add] using World.cell?_spot h0
    subst hspot
    refine ⟨b, o, rfl, ?_, fun j u hu => ?_⟩
    · have hb := World.block_lt_of_cell? w _ h0
      simpa [Addr.add] using hb
    · rw [vb_get] at hu
      have hj : j < l.length := by
        rcases Nat.lt_or_ge j l.length with h | h
        · exact h
        · rw [List.getElem?_eq_none h] at hu; cases hu
      have h1 := hcell j (by omega)
      have e1 : (⟨b, o, none⟩ : Addr).add j = ⟨b, o + j, none⟩ := by
        unfold Addr.add; split
        · rename_i h0; rw [h0]; rfl
        · rfl
      rw [e1] at h1
      rw [h1, ← hu]
      have e2 : (zs.take n)[j]? = some (zs.getD j 0) := by
        rw [List.getElem?_take, if_pos (by omega), List.getD_eq_getElem?_getD, List.getElem?_eq_getElem (by omega)]; rfl
      rw [hl'] at e2
      rw [List.getElem?_map] at e2
      cases hx : l[j]? with
      | none => rw [hx] at e2; cases e2
      | some y => rw [hx] at e2; simp only [Option.map_some, Option.some.injEq] at e2 ⊢; rw [e2]
end
end Go
namespace Go.Proofs.YtpojhcjdcbegiaaGreat
open Go.ChangeShapes Go.WideShapes Go.ChangeAt Go.RowKit
theorem ownKnob_ : ownKnob Tryz.prog.godebug = none := by kernel_rfl
theorem laidOut_ : laidOutB Tryz.prog = true := by kernel_rfl
end Go.Proofs.YtpojhcjdcbegiaaGreat
