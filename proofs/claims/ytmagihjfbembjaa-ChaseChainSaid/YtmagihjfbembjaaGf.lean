/- Walks of the references; the orders agree; examples. -/
import Derived.Test.YtmagihjfbembjaaGe
set_option linter.unusedSimpArgs false
set_option linter.unusedVariables false
namespace Go.Proofs.Ytmagihjfbembjaa
open Go Go.Tx Go.Proofs.Try
set_option maxRecDepth 100000
set_option maxHeartbeats 0
abbrev ref01_Sign_ps : List Pk := [.row Rbuu true]
abbrev ref01_Sign_X : Type := Dbuu × Unit
abbrev ref01_Sign_R : Type := Int
def ref01_Sign_enc (r : ref01_Sign_R) : LV × List Ob := (.int .i64 r, [])
def ref01_Sign_sp (F : ref01_Sign_X → Option ref01_Sign_R) : Go.Tx.Spec := ⟨84, ref01_Sign_ps, ref01_Sign_R, F, ref01_Sign_enc⟩
abbrev ref01_Sign_C : Type := Unit
def ref01_Sign_K (_d : Nat) : ref01_Sign_C := ()
def ref01_Sign_tab (C : ref01_Sign_C) : List Go.Tx.Spec := []
abbrev ref01_Sign_Y0i : Type := Bool × Int × Int
def ref01_Sign_S0i (v : ref01_Sign_Y0i) : St := ⟨[(0, .agg [.bool v.1, .int .u64 v.2.1, .int .u64 v.2.2])], []⟩
abbrev ref01_Sign_Y0 : Type := Bool × Int × Int
def ref01_Sign_S0 (v : ref01_Sign_Y0) : St := ⟨[(1, .ptr 0 0)], [.cells [.bool v.1, .int .u64 v.2.1, .int .u64 v.2.2]]⟩
def ref01_Sign_r0 (C : ref01_Sign_C) (v : ref01_Sign_Y0i) : Dt ref01_Sign_Y0 := (Dt.ret (v.1, v.2.1, v.2.2))
theorem ref01_Sign_g0 (C : ref01_Sign_C) (v : ref01_Sign_Y0i) : treg tysT (orc (ref01_Sign_tab C)) 13 (regO (bodyOf f84) 0) false [(1, .any)] (ref01_Sign_S0i v) some = (ref01_Sign_r0 C v).eval fun y => some (ref01_Sign_S0 y) := by kernel_rfl
abbrev ref01_Sign_Y1 : Type := Bool × Bool × Int × Int
def ref01_Sign_S1 (v : ref01_Sign_Y1) : St := ⟨[(1, .ptr 0 0), (10, .bool v.1)], [.cells [.bool v.2.1, .int .u64 v.2.2.1, .int .u64 v.2.2.2]]⟩
def ref01_Sign_r1 (C : ref01_Sign_C) (v : ref01_Sign_Y0) : Dt ref01_Sign_Y1 := (Dt.ite (v.2.1 == (0:Int)) (Dt.ret ((v.2.2 == (0:Int)), v.1, v.2.1, v.2.2)) (Dt.ret (false, v.1, v.2.1, v.2.2)))
theorem ref01_Sign_g1 (C : ref01_Sign_C) (v : ref01_Sign_Y0) : treg tysT (orc (ref01_Sign_tab C)) 13 (regO (bodyOf f84) 1) false [(1, .any), (10, .any)] (ref01_Sign_S0 v) some = (ref01_Sign_r1 C v).eval fun y => some (ref01_Sign_S1 y) := by kernel_rfl
abbrev ref01_Sign_Y2 : Type := Int
def ref01_Sign_S2 (v : ref01_Sign_Y2) : St := ⟨[(2, .int .i64 v)], []⟩
def ref01_Sign_r2 (C : ref01_Sign_C) (v : ref01_Sign_Y1) : Dt ref01_Sign_Y2 := (Dt.ret (0:Int))
theorem ref01_Sign_g2 (C : ref01_Sign_C) (v : ref01_Sign_Y1) : treg tysT (orc (ref01_Sign_tab C)) 13 (regO (bodyOf f84) 2) false [(2, .any)] (ref01_Sign_S1 v) some = (ref01_Sign_r2 C v).eval fun y => some (ref01_Sign_S2 y) := by kernel_rfl
abbrev ref01_Sign_Y3 : Type := Bool
def ref01_Sign_S3 (v : ref01_Sign_Y3) : St := ⟨[(12, .bool v)], []⟩
def ref01_Sign_r3 (C : ref01_Sign_C) (v : ref01_Sign_Y1) : Dt ref01_Sign_Y3 := (Dt.ret v.2.1)
theorem ref01_Sign_g3 (C : ref01_Sign_C) (v : ref01_Sign_Y1) : treg tysT (orc (ref01_Sign_tab C)) 13 (regO (bodyOf f84) 3) false [(12, .any)] (ref01_Sign_S1 v) some = (ref01_Sign_r3 C v).eval fun y => some (ref01_Sign_S3 y) := by kernel_rfl
def ref01_Sign_r4 (C : ref01_Sign_C) (v : ref01_Sign_Y3) : Dt ref01_Sign_Y2 := (Dt.ret (-1:Int))
theorem ref01_Sign_g4 (C : ref01_Sign_C) (v : ref01_Sign_Y3) : treg tysT (orc (ref01_Sign_tab C)) 13 (regO (bodyOf f84) 4) false [(2, .any)] (ref01_Sign_S3 v) some = (ref01_Sign_r4 C v).eval fun y => some (ref01_Sign_S2 y) := by kernel_rfl
def ref01_Sign_r5 (C : ref01_Sign_C) (v : ref01_Sign_Y3) : Dt ref01_Sign_Y2 := (Dt.ret (1:Int))
theorem ref01_Sign_g5 (C : ref01_Sign_C) (v : ref01_Sign_Y3) : treg tysT (orc (ref01_Sign_tab C)) 13 (regO (bodyOf f84) 5) false [(2, .any)] (ref01_Sign_S3 v) some = (ref01_Sign_r5 C v).eval fun y => some (ref01_Sign_S2 y) := by kernel_rfl
def F_ref01_Sign (d : Nat) (x : ref01_Sign_X) : Option ref01_Sign_R :=
  (ref01_Sign_r0 (ref01_Sign_K d) (x.1.1, x.1.2.1, x.1.2.2.1)).eval fun y0 =>
  (ref01_Sign_r1 (ref01_Sign_K d) y0).eval fun y1 =>
  bif y1.1 then ((ref01_Sign_r2 (ref01_Sign_K d) y1).eval fun y2 =>
  some y2) else ((ref01_Sign_r3 (ref01_Sign_K d) y1).eval fun y3 =>
  bif y3 then ((ref01_Sign_r4 (ref01_Sign_K d) y3).eval fun y4 =>
  some y4) else ((ref01_Sign_r5 (ref01_Sign_K d) y3).eval fun y5 =>
  some y5))
theorem ref01_Sign_cok (d : Nat) : COK prog (ref01_Sign_sp (F_ref01_Sign d)) := by
  have hm : prog.follows .mixedOrders = true := mixed
  have hT := tys
  have hC0 : OrcOK prog (orc (ref01_Sign_tab (ref01_Sign_K d))) := orc_ok (by
    intro S hS
    simp only [ref01_Sign_tab, List.mem_cons, List.not_mem_nil, or_false] at hS
    all_goals first | cases hS | exact hS.elim)
  have hC : OrcOK prog (orc (ref01_Sign_tab (ref01_Sign_K d))) := hC0
  refine cok_of (c := bodyOf f84) (fn := f84) hT (by kernel_rfl) (by kernel_rfl) (by decide) fun x r h w0 φ0 Q hend => ?_
  replace h : F_ref01_Sign d x = some r := h
  unfold F_ref01_Sign at h
  show Run prog w0 φ0 13 (bodyOf f84) ⟨[(0, .agg [.bool x.1.1, .int .u64 x.1.2.1, .int .u64 x.1.2.2.1])], []⟩ Q
  refine run_seq ?_
  refine run_reg hm hT hC (ref01_Sign_g0 (ref01_Sign_K d) (x.1.1, x.1.2.1, x.1.2.2.1)) h ?_
  intro y0 h
  refine cn_then ?_
  refine run_seq ?_
  refine run_seq ?_
  refine run_reg hm hT hC (ref01_Sign_g1 (ref01_Sign_K d) y0) h ?_
  intro y1 h
  refine cn_then ?_
  refine run_cond (v := y1.1) (by kernel_rfl) h ?_ ?_
  ·
    intro h
    refine run_seq ?_
    refine run_reg hm hT hC (ref01_Sign_g2 (ref01_Sign_K d) y1) h ?_
    intro y2 h
    refine cn_then ?_
    refine run_ret ?_
    refine cn_then_ret ?_
    cases h
    exact (hend _ (by kernel_rfl)).2
  ·
    intro h
    refine run_skip ?_
    refine cn_then ?_
    refine run_seq ?_
    refine run_seq ?_
    refine run_reg hm hT hC (ref01_Sign_g3 (ref01_Sign_K d) y1) h ?_
    intro y3 h
    refine cn_then ?_
    refine run_cond (v := y3) (by kernel_rfl) h ?_ ?_
    ·
      intro h
      refine run_seq ?_
      refine run_reg hm hT hC (ref01_Sign_g4 (ref01_Sign_K d) y3) h ?_
      intro y4 h
      refine cn_then ?_
      refine run_ret ?_
      refine cn_then_ret ?_
      cases h
      exact (hend _ (by kernel_rfl)).2
    ·
      intro h
      refine run_skip ?_
      refine cn_then ?_
      refine run_seq ?_
      refine run_reg hm hT hC (ref01_Sign_g5 (ref01_Sign_K d) y3) h ?_
      intro y5 h
      refine cn_then ?_
      refine run_ret ?_
      cases h
      exact (hend _ (by kernel_rfl)).2
abbrev ref01_less_ps : List Pk := [.row Rbuu true, .row Rbuu true]
abbrev ref01_less_X : Type := Dbuu × Dbuu × Unit
abbrev ref01_less_R : Type := Int
def ref01_less_enc (r : ref01_less_R) : LV × List Ob := (.int .i64 r, [])
def ref01_less_sp (F : ref01_less_X → Option ref01_less_R) : Go.Tx.Spec := ⟨85, ref01_less_ps, ref01_less_R, F, ref01_less_enc⟩
abbrev ref01_less_C : Type := Unit
def ref01_less_K (_d : Nat) : ref01_less_C := ()
def ref01_less_tab (C : ref01_less_C) : List Go.Tx.Spec := []
abbrev ref01_less_Y0i : Type := Bool × Int × Int × Bool × Int × Int
def ref01_less_S0i (v : ref01_less_Y0i) : St := ⟨[(0, .agg [.bool v.1, .int .u64 v.2.1, .int .u64 v.2.2.1]), (1, .agg [.bool v.2.2.2.1, .int .u64 v.2.2.2.2.1, .int .u64 v.2.2.2.2.2])], []⟩
abbrev ref01_less_Y0 : Type := Bool × Int × Int × Bool × Int × Int
def ref01_less_S0 (v : ref01_less_Y0) : St := ⟨[(2, .ptr 0 0), (3, .ptr 1 0)], [.cells [.bool v.1, .int .u64 v.2.1, .int .u64 v.2.2.1], .cells [.bool v.2.2.2.1, .int .u64 v.2.2.2.2.1, .int .u64 v.2.2.2.2.2]]⟩
def ref01_less_r0 (C : ref01_less_C) (v : ref01_less_Y0i) : Dt ref01_less_Y0 := (Dt.ret (v.1, v.2.1, v.2.2.1, v.2.2.2.1, v.2.2.2.2.1, v.2.2.2.2.2))
theorem ref01_less_g0 (C : ref01_less_C) (v : ref01_less_Y0i) : treg tysT (orc (ref01_less_tab C)) 25 (regO (bodyOf f85) 0) false [(2, .any), (3, .any)] (ref01_less_S0i v) some = (ref01_less_r0 C v).eval fun y => some (ref01_less_S0 y) := by kernel_rfl
abbrev ref01_less_Y1 : Type := Bool × Bool × Int × Int × Bool × Int × Int
def ref01_less_S1 (v : ref01_less_Y1) : St := ⟨[(2, .ptr 0 0), (3, .ptr 1 0), (9, .bool v.1)], [.cells [.bool v.2.1, .int .u64 v.2.2.1, .int .u64 v.2.2.2.1], .cells [.bool v.2.2.2.2.1, .int .u64 v.2.2.2.2.2.1, .int .u64 v.2.2.2.2.2.2]]⟩
def ref01_less_r1 (C : ref01_less_C) (v : ref01_less_Y0) : Dt ref01_less_Y1 := (Dt.ret ((v.2.1 != v.2.2.2.2.1), v.1, v.2.1, v.2.2.1, v.2.2.2.1, v.2.2.2.2.1, v.2.2.2.2.2))
theorem ref01_less_g1 (C : ref01_less_C) (v : ref01_less_Y0) : treg tysT (orc (ref01_less_tab C)) 25 (regO (bodyOf f85) 1) false [(2, .any), (3, .any), (9, .any)] (ref01_less_S0 v) some = (ref01_less_r1 C v).eval fun y => some (ref01_less_S1 y) := by kernel_rfl
abbrev ref01_less_Y2 : Type := Bool
def ref01_less_S2 (v : ref01_less_Y2) : St := ⟨[(14, .bool v)], []⟩
def ref01_less_r2 (C : ref01_less_C) (v : ref01_less_Y1) : Dt ref01_less_Y2 := (Dt.ret (decide (v.2.2.1 < v.2.2.2.2.2.1)))
theorem ref01_less_g2 (C : ref01_less_C) (v : ref01_less_Y1) : treg tysT (orc (ref01_less_tab C)) 25 (regO (bodyOf f85) 2) false [(14, .any)] (ref01_less_S1 v) some = (ref01_less_r2 C v).eval fun y => some (ref01_less_S2 y) := by kernel_rfl
abbrev ref01_less_Y3 : Type := Int
def ref01_less_S3 (v : ref01_less_Y3) : St := ⟨[(4, .int .i64 v)], []⟩
def ref01_less_r3 (C : ref01_less_C) (v : ref01_less_Y2) : Dt ref01_less_Y3 := (Dt.ret (-1:Int))
theorem ref01_less_g3 (C : ref01_less_C) (v : ref01_less_Y2) : treg tysT (orc (ref01_less_tab C)) 25 (regO (bodyOf f85) 3) false [(4, .any)] (ref01_less_S2 v) some = (ref01_less_r3 C v).eval fun y => some (ref01_less_S3 y) := by kernel_rfl
def ref01_less_r4 (C : ref01_less_C) (v : ref01_less_Y2) : Dt ref01_less_Y3 := (Dt.ret (1:Int))
theorem ref01_less_g4 (C : ref01_less_C) (v : ref01_less_Y2) : treg tysT (orc (ref01_less_tab C)) 25 (regO (bodyOf f85) 4) false [(4, .any)] (ref01_less_S2 v) some = (ref01_less_r4 C v).eval fun y => some (ref01_less_S3 y) := by kernel_rfl
abbrev ref01_less_Y5 : Type := Bool × Bool × Int × Int × Bool × Int × Int
def ref01_less_S5 (v : ref01_less_Y5) : St := ⟨[(2, .ptr 0 0), (3, .ptr 1 0), (19, .bool v.1)], [.cells [.bool v.2.1, .int .u64 v.2.2.1, .int .u64 v.2.2.2.1], .cells [.bool v.2.2.2.2.1, .int .u64 v.2.2.2.2.2.1, .int .u64 v.2.2.2.2.2.2]]⟩
def ref01_less_r5 (C : ref01_less_C) (v : ref01_less_Y1) : Dt ref01_less_Y5 := (Dt.ret ((v.2.2.2.1 != v.2.2.2.2.2.2), v.2.1, v.2.2.1, v.2.2.2.1, v.2.2.2.2.1, v.2.2.2.2.2.1, v.2.2.2.2.2.2))
theorem ref01_less_g5 (C : ref01_less_C) (v : ref01_less_Y1) : treg tysT (orc (ref01_less_tab C)) 25 (regO (bodyOf f85) 5) false [(2, .any), (3, .any), (19, .any)] (ref01_less_S1 v) some = (ref01_less_r5 C v).eval fun y => some (ref01_less_S5 y) := by kernel_rfl
abbrev ref01_less_Y6 : Type := Bool
def ref01_less_S6 (v : ref01_less_Y6) : St := ⟨[(24, .bool v)], []⟩
def ref01_less_r6 (C : ref01_less_C) (v : ref01_less_Y5) : Dt ref01_less_Y6 := (Dt.ret (decide (v.2.2.2.1 < v.2.2.2.2.2.2)))
theorem ref01_less_g6 (C : ref01_less_C) (v : ref01_less_Y5) : treg tysT (orc (ref01_less_tab C)) 25 (regO (bodyOf f85) 6) false [(24, .any)] (ref01_less_S5 v) some = (ref01_less_r6 C v).eval fun y => some (ref01_less_S6 y) := by kernel_rfl
def ref01_less_r7 (C : ref01_less_C) (v : ref01_less_Y6) : Dt ref01_less_Y3 := (Dt.ret (-1:Int))
theorem ref01_less_g7 (C : ref01_less_C) (v : ref01_less_Y6) : treg tysT (orc (ref01_less_tab C)) 25 (regO (bodyOf f85) 7) false [(4, .any)] (ref01_less_S6 v) some = (ref01_less_r7 C v).eval fun y => some (ref01_less_S3 y) := by kernel_rfl
def ref01_less_r8 (C : ref01_less_C) (v : ref01_less_Y6) : Dt ref01_less_Y3 := (Dt.ret (1:Int))
theorem ref01_less_g8 (C : ref01_less_C) (v : ref01_less_Y6) : treg tysT (orc (ref01_less_tab C)) 25 (regO (bodyOf f85) 8) false [(4, .any)] (ref01_less_S6 v) some = (ref01_less_r8 C v).eval fun y => some (ref01_less_S3 y) := by kernel_rfl
def ref01_less_r9 (C : ref01_less_C) (v : ref01_less_Y5) : Dt ref01_less_Y3 := (Dt.ret (0:Int))
theorem ref01_less_g9 (C : ref01_less_C) (v : ref01_less_Y5) : treg tysT (orc (ref01_less_tab C)) 25 (regO (bodyOf f85) 9) false [(4, .any)] (ref01_less_S5 v) some = (ref01_less_r9 C v).eval fun y => some (ref01_less_S3 y) := by kernel_rfl
def F_ref01_less (d : Nat) (x : ref01_less_X) : Option ref01_less_R :=
  (ref01_less_r0 (ref01_less_K d) (x.1.1, x.1.2.1, x.1.2.2.1, x.2.1.1, x.2.1.2.1, x.2.1.2.2.1)).eval fun y0 =>
  (ref01_less_r1 (ref01_less_K d) y0).eval fun y1 =>
  bif y1.1 then ((ref01_less_r2 (ref01_less_K d) y1).eval fun y2 =>
  bif y2 then ((ref01_less_r3 (ref01_less_K d) y2).eval fun y3 =>
  some y3) else ((ref01_less_r4 (ref01_less_K d) y2).eval fun y4 =>
  some y4)) else ((ref01_less_r5 (ref01_less_K d) y1).eval fun y5 =>
  bif y5.1 then ((ref01_less_r6 (ref01_less_K d) y5).eval fun y6 =>
  bif y6 then ((ref01_less_r7 (ref01_less_K d) y6).eval fun y7 =>
  some y7) else ((ref01_less_r8 (ref01_less_K d) y6).eval fun y8 =>
  some y8)) else ((ref01_less_r9 (ref01_less_K d) y5).eval fun y9 =>
  some y9))
theorem ref01_less_cok (d : Nat) : COK prog (ref01_less_sp (F_ref01_less d)) := by
  have hm : prog.follows .mixedOrders = true := mixed
  have hT := tys
  have hC0 : OrcOK prog (orc (ref01_less_tab (ref01_less_K d))) := orc_ok (by
    intro S hS
    simp only [ref01_less_tab, List.mem_cons, List.not_mem_nil, or_false] at hS
    all_goals first | cases hS | exact hS.elim)
  have hC : OrcOK prog (orc (ref01_less_tab (ref01_less_K d))) := hC0
  refine cok_of (c := bodyOf f85) (fn := f85) hT (by kernel_rfl) (by kernel_rfl) (by decide) fun x r h w0 φ0 Q hend => ?_
  replace h : F_ref01_less d x = some r := h
  unfold F_ref01_less at h
  show Run prog w0 φ0 25 (bodyOf f85) ⟨[(0, .agg [.bool x.1.1, .int .u64 x.1.2.1, .int .u64 x.1.2.2.1]), (1, .agg [.bool x.2.1.1, .int .u64 x.2.1.2.1, .int .u64 x.2.1.2.2.1])], []⟩ Q
  refine run_seq ?_
  refine run_reg hm hT hC (ref01_less_g0 (ref01_less_K d) (x.1.1, x.1.2.1, x.1.2.2.1, x.2.1.1, x.2.1.2.1, x.2.1.2.2.1)) h ?_
  intro y0 h
  refine cn_then ?_
  refine run_seq ?_
  refine run_seq ?_
  refine run_reg hm hT hC (ref01_less_g1 (ref01_less_K d) y0) h ?_
  intro y1 h
  refine cn_then ?_
  refine run_cond (v := y1.1) (by kernel_rfl) h ?_ ?_
  ·
    intro h
    refine run_seq ?_
    refine run_seq ?_
    refine run_reg hm hT hC (ref01_less_g2 (ref01_less_K d) y1) h ?_
    intro y2 h
    refine cn_then ?_
    refine run_cond (v := y2) (by kernel_rfl) h ?_ ?_
    ·
      intro h
      refine run_seq ?_
      refine run_reg hm hT hC (ref01_less_g3 (ref01_less_K d) y2) h ?_
      intro y3 h
      refine cn_then ?_
      refine run_ret ?_
      refine cn_then_ret ?_
      refine cn_then_ret ?_
      cases h
      exact (hend _ (by kernel_rfl)).2
    ·
      intro h
      refine run_skip ?_
      refine cn_then ?_
      refine run_seq ?_
      refine run_reg hm hT hC (ref01_less_g4 (ref01_less_K d) y2) h ?_
      intro y4 h
      refine cn_then ?_
      refine run_ret ?_
      refine cn_then_ret ?_
      cases h
      exact (hend _ (by kernel_rfl)).2
  ·
    intro h
    refine run_skip ?_
    refine cn_then ?_
    refine run_seq ?_
    refine run_seq ?_
    refine run_reg hm hT hC (ref01_less_g5 (ref01_less_K d) y1) h ?_
    intro y5 h
    refine cn_then ?_
    refine run_cond (v := y5.1) (by kernel_rfl) h ?_ ?_
    ·
      intro h
      refine run_seq ?_
      refine run_seq ?_
      refine run_reg hm hT hC (ref01_less_g6 (ref01_less_K d) y5) h ?_
      intro y6 h
      refine cn_then ?_
      refine run_cond (v := y6) (by kernel_rfl) h ?_ ?_
      ·
        intro h
        refine run_seq ?_
        refine run_reg hm hT hC (ref01_less_g7 (ref01_less_K d) y6) h ?_
        intro y7 h
        refine cn_then ?_
        refine run_ret ?_
        refine cn_then_ret ?_
        refine cn_then_ret ?_
        cases h
        exact (hend _ (by kernel_rfl)).2
      ·
        intro h
        refine run_skip ?_
        refine cn_then ?_
        refine run_seq ?_
        refine run_reg hm hT hC (ref01_less_g8 (ref01_less_K d) y6) h ?_
        intro y8 h
        refine cn_then ?_
        refine run_ret ?_
        refine cn_then_ret ?_
        cases h
        exact (hend _ (by kernel_rfl)).2
    ·
      intro h
      refine run_skip ?_
      refine cn_then ?_
      refine run_seq ?_
      refine run_reg hm hT hC (ref01_less_g9 (ref01_less_K d) y5) h ?_
      intro y9 h
      refine cn_then ?_
      refine run_ret ?_
      cases h
      exact (hend _ (by kernel_rfl)).2
abbrev ref01_Compare_ps : List Pk := [.row Rii true, .row Rii true]
abbrev ref01_Compare_X : Type := Dii × Dii × Unit
abbrev ref01_Compare_R : Type := Int
def ref01_Compare_enc (r : ref01_Compare_R) : LV × List Ob := (.int .i64 r, [])
def ref01_Compare_sp (F : ref01_Compare_X → Option ref01_Compare_R) : Go.Tx.Spec := ⟨47, ref01_Compare_ps, ref01_Compare_R, F, ref01_Compare_enc⟩
abbrev ref01_Compare_C : Type := (ref01_Product_X → Option ref01_Product_R) × (ref01_Sign_X → Option ref01_Sign_R) × (ref01_less_X → Option ref01_less_R) × Unit
def ref01_Compare_K (d : Nat) : ref01_Compare_C := (F_ref01_Product d, F_ref01_Sign d, F_ref01_less d, ())
def ref01_Compare_tab (C : ref01_Compare_C) : List Go.Tx.Spec := [ref01_Product_sp C.1, ref01_Sign_sp C.2.1, ref01_less_sp C.2.2.1]
abbrev ref01_Compare_Y0i : Type := Int × Int × Int × Int
def ref01_Compare_S0i (v : ref01_Compare_Y0i) : St := ⟨[(0, .agg [.int .i64 v.1, .int .i64 v.2.1]), (1, .agg [.int .i64 v.2.2.1, .int .i64 v.2.2.2])], []⟩
abbrev ref01_Compare_Y0 : Type := Int × Int × Int × Int
def ref01_Compare_S0 (v : ref01_Compare_Y0) : St := ⟨[(2, .ptr 0 0), (3, .ptr 1 0)], [.cells [.int .i64 v.1, .int .i64 v.2.1], .cells [.int .i64 v.2.2.1, .int .i64 v.2.2.2]]⟩
def ref01_Compare_r0 (C : ref01_Compare_C) (v : ref01_Compare_Y0i) : Dt ref01_Compare_Y0 := (Dt.ret (v.1, v.2.1, v.2.2.1, v.2.2.2))
theorem ref01_Compare_g0 (C : ref01_Compare_C) (v : ref01_Compare_Y0i) : treg tysT (orc (ref01_Compare_tab C)) 36 (regO (bodyOf f47) 0) false [(2, .any), (3, .any)] (ref01_Compare_S0i v) some = (ref01_Compare_r0 C v).eval fun y => some (ref01_Compare_S0 y) := by kernel_rfl
abbrev ref01_Compare_Y1 : Type := Bool × Int × Int × Bool × Int × Int
def ref01_Compare_S1 (v : ref01_Compare_Y1) : St := ⟨[(5, .ptr 0 0), (6, .ptr 1 0)], [.cells [.bool v.1, .int .u64 v.2.1, .int .u64 v.2.2.1], .cells [.bool v.2.2.2.1, .int .u64 v.2.2.2.2.1, .int .u64 v.2.2.2.2.2]]⟩
def ref01_Compare_r1 (C : ref01_Compare_C) (v : ref01_Compare_Y0) : Dt ref01_Compare_Y1 := (Dt.bnd (C.1 ((v.1, ()), (v.2.2.2, ()), ())) fun r1 => (Dt.bnd (C.1 ((v.2.2.1, ()), (v.2.1, ()), ())) fun r2 => (Dt.ret (r1.1, r1.2.1, r1.2.2, r2.1, r2.2.1, r2.2.2))))
theorem ref01_Compare_g1 (C : ref01_Compare_C) (v : ref01_Compare_Y0) : treg tysT (orc (ref01_Compare_tab C)) 36 (regO (bodyOf f47) 1) true [(5, .any), (6, .any)] (ref01_Compare_S0 v) some = (ref01_Compare_r1 C v).eval fun y => some (ref01_Compare_S1 y) := by kernel_rfl
abbrev ref01_Compare_Y2 : Type := Bool × Bool × Int × Int × Bool × Int × Int
def ref01_Compare_S2 (v : ref01_Compare_Y2) : St := ⟨[(5, .ptr 0 0), (6, .ptr 1 0), (21, .bool v.1)], [.cells [.bool v.2.1, .int .u64 v.2.2.1, .int .u64 v.2.2.2.1], .cells [.bool v.2.2.2.2.1, .int .u64 v.2.2.2.2.2.1, .int .u64 v.2.2.2.2.2.2]]⟩
def ref01_Compare_r2 (C : ref01_Compare_C) (v : ref01_Compare_Y1) : Dt ref01_Compare_Y2 := (Dt.bnd (C.2.1 ((v.1, v.2.1, v.2.2.1, ()), ())) fun r1 => (Dt.bnd (C.2.1 ((v.2.2.2.1, v.2.2.2.2.1, v.2.2.2.2.2, ()), ())) fun r2 => (Dt.ret ((r1 != r2), v.1, v.2.1, v.2.2.1, v.2.2.2.1, v.2.2.2.2.1, v.2.2.2.2.2))))
theorem ref01_Compare_g2 (C : ref01_Compare_C) (v : ref01_Compare_Y1) : treg tysT (orc (ref01_Compare_tab C)) 36 (regO (bodyOf f47) 2) true [(5, .any), (6, .any), (21, .any)] (ref01_Compare_S1 v) some = (ref01_Compare_r2 C v).eval fun y => some (ref01_Compare_S2 y) := by kernel_rfl
abbrev ref01_Compare_Y3 : Type := Bool
def ref01_Compare_S3 (v : ref01_Compare_Y3) : St := ⟨[(26, .bool v)], []⟩
def ref01_Compare_r3 (C : ref01_Compare_C) (v : ref01_Compare_Y2) : Dt ref01_Compare_Y3 := (Dt.bnd (C.2.1 ((v.2.1, v.2.2.1, v.2.2.2.1, ()), ())) fun r1 => (Dt.bnd (C.2.1 ((v.2.2.2.2.1, v.2.2.2.2.2.1, v.2.2.2.2.2.2, ()), ())) fun r2 => (Dt.ret (decide (r1 < r2)))))
theorem ref01_Compare_g3 (C : ref01_Compare_C) (v : ref01_Compare_Y2) : treg tysT (orc (ref01_Compare_tab C)) 36 (regO (bodyOf f47) 3) true [(26, .any)] (ref01_Compare_S2 v) some = (ref01_Compare_r3 C v).eval fun y => some (ref01_Compare_S3 y) := by kernel_rfl
abbrev ref01_Compare_Y4 : Type := Int
def ref01_Compare_S4 (v : ref01_Compare_Y4) : St := ⟨[(4, .int .i64 v)], []⟩
def ref01_Compare_r4 (C : ref01_Compare_C) (v : ref01_Compare_Y3) : Dt ref01_Compare_Y4 := (Dt.ret (-1:Int))
theorem ref01_Compare_g4 (C : ref01_Compare_C) (v : ref01_Compare_Y3) : treg tysT (orc (ref01_Compare_tab C)) 36 (regO (bodyOf f47) 4) false [(4, .any)] (ref01_Compare_S3 v) some = (ref01_Compare_r4 C v).eval fun y => some (ref01_Compare_S4 y) := by kernel_rfl
def ref01_Compare_r5 (C : ref01_Compare_C) (v : ref01_Compare_Y3) : Dt ref01_Compare_Y4 := (Dt.ret (1:Int))
theorem ref01_Compare_g5 (C : ref01_Compare_C) (v : ref01_Compare_Y3) : treg tysT (orc (ref01_Compare_tab C)) 36 (regO (bodyOf f47) 5) false [(4, .any)] (ref01_Compare_S3 v) some = (ref01_Compare_r5 C v).eval fun y => some (ref01_Compare_S4 y) := by kernel_rfl
abbrev ref01_Compare_Y6 : Type := Bool × Bool × Int × Int × Bool × Int × Int
def ref01_Compare_S6 (v : ref01_Compare_Y6) : St := ⟨[(5, .ptr 0 0), (6, .ptr 1 0), (29, .bool v.1)], [.cells [.bool v.2.1, .int .u64 v.2.2.1, .int .u64 v.2.2.2.1], .cells [.bool v.2.2.2.2.1, .int .u64 v.2.2.2.2.2.1, .int .u64 v.2.2.2.2.2.2]]⟩
def ref01_Compare_r6 (C : ref01_Compare_C) (v : ref01_Compare_Y2) : Dt ref01_Compare_Y6 := (Dt.bnd (C.2.1 ((v.2.1, v.2.2.1, v.2.2.2.1, ()), ())) fun r1 => (Dt.ret ((decide (r1 < (0:Int))), v.2.1, v.2.2.1, v.2.2.2.1, v.2.2.2.2.1, v.2.2.2.2.2.1, v.2.2.2.2.2.2)))
theorem ref01_Compare_g6 (C : ref01_Compare_C) (v : ref01_Compare_Y2) : treg tysT (orc (ref01_Compare_tab C)) 36 (regO (bodyOf f47) 6) false [(5, .any), (6, .any), (29, .any)] (ref01_Compare_S2 v) some = (ref01_Compare_r6 C v).eval fun y => some (ref01_Compare_S6 y) := by kernel_rfl
def ref01_Compare_r7 (C : ref01_Compare_C) (v : ref01_Compare_Y6) : Dt ref01_Compare_Y4 := (Dt.bnd (C.2.2.1 ((v.2.2.2.2.1, v.2.2.2.2.2.1, v.2.2.2.2.2.2, ()), (v.2.1, v.2.2.1, v.2.2.2.1, ()), ())) fun r1 => (Dt.ret r1))
theorem ref01_Compare_g7 (C : ref01_Compare_C) (v : ref01_Compare_Y6) : treg tysT (orc (ref01_Compare_tab C)) 36 (regO (bodyOf f47) 7) false [(4, .any)] (ref01_Compare_S6 v) some = (ref01_Compare_r7 C v).eval fun y => some (ref01_Compare_S4 y) := by kernel_rfl
def ref01_Compare_r8 (C : ref01_Compare_C) (v : ref01_Compare_Y6) : Dt ref01_Compare_Y4 := (Dt.bnd (C.2.2.1 ((v.2.1, v.2.2.1, v.2.2.2.1, ()), (v.2.2.2.2.1, v.2.2.2.2.2.1, v.2.2.2.2.2.2, ()), ())) fun r1 => (Dt.ret r1))
theorem ref01_Compare_g8 (C : ref01_Compare_C) (v : ref01_Compare_Y6) : treg tysT (orc (ref01_Compare_tab C)) 36 (regO (bodyOf f47) 8) false [(4, .any)] (ref01_Compare_S6 v) some = (ref01_Compare_r8 C v).eval fun y => some (ref01_Compare_S4 y) := by kernel_rfl
def F_ref01_Compare (d : Nat) (x : ref01_Compare_X) : Option ref01_Compare_R :=
  (ref01_Compare_r0 (ref01_Compare_K d) (x.1.1, x.1.2.1, x.2.1.1, x.2.1.2.1)).eval fun y0 =>
  (ref01_Compare_r1 (ref01_Compare_K d) y0).eval fun y1 =>
  (ref01_Compare_r2 (ref01_Compare_K d) y1).eval fun y2 =>
  bif y2.1 then ((ref01_Compare_r3 (ref01_Compare_K d) y2).eval fun y3 =>
  bif y3 then ((ref01_Compare_r4 (ref01_Compare_K d) y3).eval fun y4 =>
  some y4) else ((ref01_Compare_r5 (ref01_Compare_K d) y3).eval fun y5 =>
  some y5)) else ((ref01_Compare_r6 (ref01_Compare_K d) y2).eval fun y6 =>
  bif y6.1 then ((ref01_Compare_r7 (ref01_Compare_K d) y6).eval fun y7 =>
  some y7) else ((ref01_Compare_r8 (ref01_Compare_K d) y6).eval fun y8 =>
  some y8))
theorem ref01_Compare_cok (d : Nat) : COK prog (ref01_Compare_sp (F_ref01_Compare d)) := by
  have hm : prog.follows .mixedOrders = true := mixed
  have hT := tys
  have hC0 : OrcOK prog (orc (ref01_Compare_tab (ref01_Compare_K d))) := orc_ok (by
    intro S hS
    simp only [ref01_Compare_tab, List.mem_cons, List.not_mem_nil, or_false] at hS
    rcases hS with rfl | rfl | rfl
    · exact ref01_Product_cok d
    · exact ref01_Sign_cok d
    · exact ref01_less_cok d)
  have hC : OrcOK prog (orc (ref01_Compare_tab (ref01_Compare_K d))) := hC0
  refine cok_of (c := bodyOf f47) (fn := f47) hT (by kernel_rfl) (by kernel_rfl) (by decide) fun x r h w0 φ0 Q hend => ?_
  replace h : F_ref01_Compare d x = some r := h
  unfold F_ref01_Compare at h
  show Run prog w0 φ0 36 (bodyOf f47) ⟨[(0, .agg [.int .i64 x.1.1, .int .i64 x.1.2.1]), (1, .agg [.int .i64 x.2.1.1, .int .i64 x.2.1.2.1])], []⟩ Q
  refine run_seq ?_
  refine run_reg hm hT hC (ref01_Compare_g0 (ref01_Compare_K d) (x.1.1, x.1.2.1, x.2.1.1, x.2.1.2.1)) h ?_
  intro y0 h
  refine cn_then ?_
  refine run_seq ?_
  refine run_reg hm hT hC (ref01_Compare_g1 (ref01_Compare_K d) y0) h ?_
  intro y1 h
  refine cn_then ?_
  refine run_seq ?_
  refine run_seq ?_
  refine run_reg hm hT hC (ref01_Compare_g2 (ref01_Compare_K d) y1) h ?_
  intro y2 h
  refine cn_then ?_
  refine run_cond (v := y2.1) (by kernel_rfl) h ?_ ?_
  ·
    intro h
    refine run_seq ?_
    refine run_seq ?_
    refine run_reg hm hT hC (ref01_Compare_g3 (ref01_Compare_K d) y2) h ?_
    intro y3 h
    refine cn_then ?_
    refine run_cond (v := y3) (by kernel_rfl) h ?_ ?_
    ·
      intro h
      refine run_seq ?_
      refine run_reg hm hT hC (ref01_Compare_g4 (ref01_Compare_K d) y3) h ?_
      intro y4 h
      refine cn_then ?_
      refine run_ret ?_
      refine cn_then_ret ?_
      refine cn_then_ret ?_
      cases h
      exact (hend _ (by kernel_rfl)).2
    ·
      intro h
      refine run_skip ?_
      refine cn_then ?_
      refine run_seq ?_
      refine run_reg hm hT hC (ref01_Compare_g5 (ref01_Compare_K d) y3) h ?_
      intro y5 h
      refine cn_then ?_
      refine run_ret ?_
      refine cn_then_ret ?_
      cases h
      exact (hend _ (by kernel_rfl)).2
  ·
    intro h
    refine run_skip ?_
    refine cn_then ?_
    refine run_seq ?_
    refine run_seq ?_
    refine run_reg hm hT hC (ref01_Compare_g6 (ref01_Compare_K d) y2) h ?_
    intro y6 h
    refine cn_then ?_
    refine run_cond (v := y6.1) (by kernel_rfl) h ?_ ?_
    ·
      intro h
      refine run_seq ?_
      refine run_reg hm hT hC (ref01_Compare_g7 (ref01_Compare_K d) y6) h ?_
      intro y7 h
      refine cn_then ?_
      refine run_ret ?_
      refine cn_then_ret ?_
      cases h
      exact (hend _ (by kernel_rfl)).2
    ·
      intro h
      refine run_skip ?_
      refine cn_then ?_
      refine run_seq ?_
      refine run_reg hm hT hC (ref01_Compare_g8 (ref01_Compare_K d) y6) h ?_
      intro y8 h
      refine cn_then ?_
      refine run_ret ?_
      cases h
      exact (hend _ (by kernel_rfl)).2
abbrev ref02_Met_ps : List Pk := [.row Riii true, .row Riii true]
abbrev ref02_Met_X : Type := Diii × Diii × Unit
abbrev ref02_Met_R : Type := Int × Int
def ref02_Met_enc (r : ref02_Met_R) : LV × List Ob := (.agg [.int .i64 r.1, .int .i64 r.2], [])
def ref02_Met_sp (F : ref02_Met_X → Option ref02_Met_R) : Go.Tx.Spec := ⟨76, ref02_Met_ps, ref02_Met_R, F, ref02_Met_enc⟩
abbrev ref02_Met_C : Type := (ref01_Make_X → Option ref01_Make_R) × Unit
def ref02_Met_K (d : Nat) : ref02_Met_C := (F_ref01_Make d, ())
def ref02_Met_tab (C : ref02_Met_C) : List Go.Tx.Spec := [ref01_Make_sp C.1]
abbrev ref02_Met_Y0i : Type := Int × Int × Int × Int × Int × Int
def ref02_Met_S0i (v : ref02_Met_Y0i) : St := ⟨[(0, .agg [.int .i64 v.1, .int .i64 v.2.1, .int .i64 v.2.2.1]), (1, .agg [.int .i64 v.2.2.2.1, .int .i64 v.2.2.2.2.1, .int .i64 v.2.2.2.2.2])], []⟩
abbrev ref02_Met_Y0 : Type := Int × Int × Int × Int × Int × Int × Int × Int
def ref02_Met_S0 (v : ref02_Met_Y0) : St := ⟨[(2, .ptr 0 0), (3, .ptr 1 0), (4, .ptr 2 0)], [.cells [.int .i64 v.1, .int .i64 v.2.1, .int .i64 v.2.2.1], .cells [.int .i64 v.2.2.2.1, .int .i64 v.2.2.2.2.1, .int .i64 v.2.2.2.2.2.1], .cells [.int .i64 v.2.2.2.2.2.2.1, .int .i64 v.2.2.2.2.2.2.2]]⟩
def ref02_Met_r0 (C : ref02_Met_C) (v : ref02_Met_Y0i) : Dt ref02_Met_Y0 := (Dt.ret (v.1, v.2.1, v.2.2.1, v.2.2.2.1, v.2.2.2.2.1, v.2.2.2.2.2, (0:Int), (0:Int)))
theorem ref02_Met_g0 (C : ref02_Met_C) (v : ref02_Met_Y0i) : treg tysT (orc (ref02_Met_tab C)) 22 (regO (bodyOf f76) 0) false [(2, .any), (3, .any), (4, .any)] (ref02_Met_S0i v) some = (ref02_Met_r0 C v).eval fun y => some (ref02_Met_S0 y) := by kernel_rfl
abbrev ref02_Met_Y1 : Type := Int × Int × Int × Int
def ref02_Met_S1 (v : ref02_Met_Y1) : St := ⟨[(4, .ptr 0 0), (5, .ptr 1 0)], [.cells [.int .i64 v.1, .int .i64 v.2.1], .cells [.int .i64 v.2.2.1, .int .i64 v.2.2.2]]⟩
def ref02_Met_r1 (C : ref02_Met_C) (v : ref02_Met_Y0) : Dt ref02_Met_Y1 := (Dt.bnd (C.1 (((IntKind.wrap .i64 (v.2.1 - v.2.2.2.2.1)), ()), ((IntKind.wrap .i64 (v.2.2.2.2.2.1 - v.2.2.1)), ()), ())) fun r1 => (Dt.ret (v.2.2.2.2.2.2.1, v.2.2.2.2.2.2.2, r1.1, r1.2.1)))
theorem ref02_Met_g1 (C : ref02_Met_C) (v : ref02_Met_Y0) : treg tysT (orc (ref02_Met_tab C)) 22 (regO (bodyOf f76) 1) false [(4, .any), (5, .any)] (ref02_Met_S0 v) some = (ref02_Met_r1 C v).eval fun y => some (ref02_Met_S1 y) := by kernel_rfl
abbrev ref02_Met_Y2 : Type := Int × Int
def ref02_Met_S2 (v : ref02_Met_Y2) : St := ⟨[(4, .ptr 0 0)], [.cells [.int .i64 v.1, .int .i64 v.2]]⟩
def ref02_Met_r2 (C : ref02_Met_C) (v : ref02_Met_Y1) : Dt ref02_Met_Y2 := (Dt.ret (v.2.2.1, v.2.2.2))
theorem ref02_Met_g2 (C : ref02_Met_C) (v : ref02_Met_Y1) : treg tysT (orc (ref02_Met_tab C)) 22 (regO (bodyOf f76) 2) false [(4, .any)] (ref02_Met_S1 v) some = (ref02_Met_r2 C v).eval fun y => some (ref02_Met_S2 y) := by kernel_rfl
def F_ref02_Met (d : Nat) (x : ref02_Met_X) : Option ref02_Met_R :=
  (ref02_Met_r0 (ref02_Met_K d) (x.1.1, x.1.2.1, x.1.2.2.1, x.2.1.1, x.2.1.2.1, x.2.1.2.2.1)).eval fun y0 =>
  (ref02_Met_r1 (ref02_Met_K d) y0).eval fun y1 =>
  (ref02_Met_r2 (ref02_Met_K d) y1).eval fun y2 =>
  some y2
theorem ref02_Met_cok (d : Nat) : COK prog (ref02_Met_sp (F_ref02_Met d)) := by
  have hm : prog.follows .mixedOrders = true := mixed
  have hT := tys
  have hC0 : OrcOK prog (orc (ref02_Met_tab (ref02_Met_K d))) := orc_ok (by
    intro S hS
    simp only [ref02_Met_tab, List.mem_cons, List.not_mem_nil, or_false] at hS
    subst hS; exact ref01_Make_cok d)
  have hC : OrcOK prog (orc (ref02_Met_tab (ref02_Met_K d))) := hC0
  refine cok_of (c := bodyOf f76) (fn := f76) hT (by kernel_rfl) (by kernel_rfl) (by decide) fun x r h w0 φ0 Q hend => ?_
  replace h : F_ref02_Met d x = some r := h
  unfold F_ref02_Met at h
  show Run prog w0 φ0 22 (bodyOf f76) ⟨[(0, .agg [.int .i64 x.1.1, .int .i64 x.1.2.1, .int .i64 x.1.2.2.1]), (1, .agg [.int .i64 x.2.1.1, .int .i64 x.2.1.2.1, .int .i64 x.2.1.2.2.1])], []⟩ Q
  refine run_seq ?_
  refine run_reg hm hT hC (ref02_Met_g0 (ref02_Met_K d) (x.1.1, x.1.2.1, x.1.2.2.1, x.2.1.1, x.2.1.2.1, x.2.1.2.2.1)) h ?_
  intro y0 h
  refine cn_then ?_
  refine run_seq ?_
  refine run_reg hm hT hC (ref02_Met_g1 (ref02_Met_K d) y0) h ?_
  intro y1 h
  refine cn_then ?_
  refine run_seq ?_
  refine run_reg hm hT hC (ref02_Met_g2 (ref02_Met_K d) y1) h ?_
  intro y2 h
  refine cn_then ?_
  refine run_ret ?_
  cases h
  exact (hend _ (by kernel_rfl)).2
abbrev ref04_Before_ps : List Pk := [.row Riiii true, .row Riiii true]
abbrev ref04_Before_X : Type := Diiii × Diiii × Unit
abbrev ref04_Before_R : Type := Bool
def ref04_Before_enc (r : ref04_Before_R) : LV × List Ob := (.bool r, [])
def ref04_Before_sp (F : ref04_Before_X → Option ref04_Before_R) : Go.Tx.Spec := ⟨135, ref04_Before_ps, ref04_Before_R, F, ref04_Before_enc⟩
abbrev ref04_Before_C : Type := (ref01_Compare_X → Option ref01_Compare_R) × Unit
def ref04_Before_K (d : Nat) : ref04_Before_C := (F_ref01_Compare d, ())
def ref04_Before_tab (C : ref04_Before_C) : List Go.Tx.Spec := [ref01_Compare_sp C.1]
abbrev ref04_Before_Y0i : Type := Int × Int × Int × Int × Int × Int × Int × Int
def ref04_Before_S0i (v : ref04_Before_Y0i) : St := ⟨[(0, .agg [.int .i64 v.1, .int .i64 v.2.1, .int .i64 v.2.2.1, .int .i64 v.2.2.2.1]), (1, .agg [.int .i64 v.2.2.2.2.1, .int .i64 v.2.2.2.2.2.1, .int .i64 v.2.2.2.2.2.2.1, .int .i64 v.2.2.2.2.2.2.2])], []⟩
abbrev ref04_Before_Y0 : Type := Int × Int × Int × Int × Int × Int × Int × Int
def ref04_Before_S0 (v : ref04_Before_Y0) : St := ⟨[(2, .ptr 0 0), (3, .ptr 1 0)], [.cells [.int .i64 v.1, .int .i64 v.2.1, .int .i64 v.2.2.1, .int .i64 v.2.2.2.1], .cells [.int .i64 v.2.2.2.2.1, .int .i64 v.2.2.2.2.2.1, .int .i64 v.2.2.2.2.2.2.1, .int .i64 v.2.2.2.2.2.2.2]]⟩
def ref04_Before_r0 (C : ref04_Before_C) (v : ref04_Before_Y0i) : Dt ref04_Before_Y0 := (Dt.ret (v.1, v.2.1, v.2.2.1, v.2.2.2.1, v.2.2.2.2.1, v.2.2.2.2.2.1, v.2.2.2.2.2.2.1, v.2.2.2.2.2.2.2))
theorem ref04_Before_g0 (C : ref04_Before_C) (v : ref04_Before_Y0i) : treg tysT (orc (ref04_Before_tab C)) 30 (regO (bodyOf f135) 0) false [(2, .any), (3, .any)] (ref04_Before_S0i v) some = (ref04_Before_r0 C v).eval fun y => some (ref04_Before_S0 y) := by kernel_rfl
abbrev ref04_Before_Y1 : Type := Int × Int × Int × Int × Int × Int × Int × Int × Int
def ref04_Before_S1 (v : ref04_Before_Y1) : St := ⟨[(2, .ptr 0 0), (3, .ptr 1 0), (5, .int .i64 v.1)], [.cells [.int .i64 v.2.1, .int .i64 v.2.2.1, .int .i64 v.2.2.2.1, .int .i64 v.2.2.2.2.1], .cells [.int .i64 v.2.2.2.2.2.1, .int .i64 v.2.2.2.2.2.2.1, .int .i64 v.2.2.2.2.2.2.2.1, .int .i64 v.2.2.2.2.2.2.2.2]]⟩
def ref04_Before_r1 (C : ref04_Before_C) (v : ref04_Before_Y0) : Dt ref04_Before_Y1 := (Dt.bnd (C.1 ((v.1, v.2.1, ()), (v.2.2.2.2.1, v.2.2.2.2.2.1, ()), ())) fun r1 => (Dt.ret (r1, v.1, v.2.1, v.2.2.1, v.2.2.2.1, v.2.2.2.2.1, v.2.2.2.2.2.1, v.2.2.2.2.2.2.1, v.2.2.2.2.2.2.2)))
theorem ref04_Before_g1 (C : ref04_Before_C) (v : ref04_Before_Y0) : treg tysT (orc (ref04_Before_tab C)) 30 (regO (bodyOf f135) 1) false [(2, .any), (3, .any), (5, .any)] (ref04_Before_S0 v) some = (ref04_Before_r1 C v).eval fun y => some (ref04_Before_S1 y) := by kernel_rfl
abbrev ref04_Before_Y2 : Type := Int × Bool × Int × Int × Int × Int × Int × Int × Int × Int
def ref04_Before_S2 (v : ref04_Before_Y2) : St := ⟨[(2, .ptr 0 0), (3, .ptr 1 0), (5, .int .i64 v.1), (12, .bool v.2.1)], [.cells [.int .i64 v.2.2.1, .int .i64 v.2.2.2.1, .int .i64 v.2.2.2.2.1, .int .i64 v.2.2.2.2.2.1], .cells [.int .i64 v.2.2.2.2.2.2.1, .int .i64 v.2.2.2.2.2.2.2.1, .int .i64 v.2.2.2.2.2.2.2.2.1, .int .i64 v.2.2.2.2.2.2.2.2.2]]⟩
def ref04_Before_r2 (C : ref04_Before_C) (v : ref04_Before_Y1) : Dt ref04_Before_Y2 := (Dt.ret (v.1, (v.1 != (0:Int)), v.2.1, v.2.2.1, v.2.2.2.1, v.2.2.2.2.1, v.2.2.2.2.2.1, v.2.2.2.2.2.2.1, v.2.2.2.2.2.2.2.1, v.2.2.2.2.2.2.2.2))
theorem ref04_Before_g2 (C : ref04_Before_C) (v : ref04_Before_Y1) : treg tysT (orc (ref04_Before_tab C)) 30 (regO (bodyOf f135) 2) false [(2, .any), (3, .any), (5, .any), (12, .any)] (ref04_Before_S1 v) some = (ref04_Before_r2 C v).eval fun y => some (ref04_Before_S2 y) := by kernel_rfl
abbrev ref04_Before_Y3 : Type := Bool
def ref04_Before_S3 (v : ref04_Before_Y3) : St := ⟨[(4, .bool v)], []⟩
def ref04_Before_r3 (C : ref04_Before_C) (v : ref04_Before_Y2) : Dt ref04_Before_Y3 := (Dt.ret (decide (v.1 < (0:Int))))
theorem ref04_Before_g3 (C : ref04_Before_C) (v : ref04_Before_Y2) : treg tysT (orc (ref04_Before_tab C)) 30 (regO (bodyOf f135) 3) false [(4, .any)] (ref04_Before_S2 v) some = (ref04_Before_r3 C v).eval fun y => some (ref04_Before_S3 y) := by kernel_rfl
abbrev ref04_Before_Y4 : Type := Bool × Int × Int × Int × Int × Int × Int × Int × Int
def ref04_Before_S4 (v : ref04_Before_Y4) : St := ⟨[(2, .ptr 0 0), (3, .ptr 1 0), (19, .bool v.1)], [.cells [.int .i64 v.2.1, .int .i64 v.2.2.1, .int .i64 v.2.2.2.1, .int .i64 v.2.2.2.2.1], .cells [.int .i64 v.2.2.2.2.2.1, .int .i64 v.2.2.2.2.2.2.1, .int .i64 v.2.2.2.2.2.2.2.1, .int .i64 v.2.2.2.2.2.2.2.2]]⟩
def ref04_Before_r4 (C : ref04_Before_C) (v : ref04_Before_Y2) : Dt ref04_Before_Y4 := (Dt.ret ((v.2.2.2.2.1 != v.2.2.2.2.2.2.2.2.1), v.2.2.1, v.2.2.2.1, v.2.2.2.2.1, v.2.2.2.2.2.1, v.2.2.2.2.2.2.1, v.2.2.2.2.2.2.2.1, v.2.2.2.2.2.2.2.2.1, v.2.2.2.2.2.2.2.2.2))
theorem ref04_Before_g4 (C : ref04_Before_C) (v : ref04_Before_Y2) : treg tysT (orc (ref04_Before_tab C)) 30 (regO (bodyOf f135) 4) false [(2, .any), (3, .any), (19, .any)] (ref04_Before_S2 v) some = (ref04_Before_r4 C v).eval fun y => some (ref04_Before_S4 y) := by kernel_rfl
def ref04_Before_r5 (C : ref04_Before_C) (v : ref04_Before_Y4) : Dt ref04_Before_Y3 := (Dt.ret (decide (v.2.2.2.1 < v.2.2.2.2.2.2.2.1)))
theorem ref04_Before_g5 (C : ref04_Before_C) (v : ref04_Before_Y4) : treg tysT (orc (ref04_Before_tab C)) 30 (regO (bodyOf f135) 5) false [(4, .any)] (ref04_Before_S4 v) some = (ref04_Before_r5 C v).eval fun y => some (ref04_Before_S3 y) := by kernel_rfl
def ref04_Before_r6 (C : ref04_Before_C) (v : ref04_Before_Y4) : Dt ref04_Before_Y3 := (Dt.ret (decide (v.2.2.2.2.1 < v.2.2.2.2.2.2.2.2)))
theorem ref04_Before_g6 (C : ref04_Before_C) (v : ref04_Before_Y4) : treg tysT (orc (ref04_Before_tab C)) 30 (regO (bodyOf f135) 6) false [(4, .any)] (ref04_Before_S4 v) some = (ref04_Before_r6 C v).eval fun y => some (ref04_Before_S3 y) := by kernel_rfl
def F_ref04_Before (d : Nat) (x : ref04_Before_X) : Option ref04_Before_R :=
  (ref04_Before_r0 (ref04_Before_K d) (x.1.1, x.1.2.1, x.1.2.2.1, x.1.2.2.2.1, x.2.1.1, x.2.1.2.1, x.2.1.2.2.1, x.2.1.2.2.2.1)).eval fun y0 =>
  (ref04_Before_r1 (ref04_Before_K d) y0).eval fun y1 =>
  (ref04_Before_r2 (ref04_Before_K d) y1).eval fun y2 =>
  bif y2.2.1 then ((ref04_Before_r3 (ref04_Before_K d) y2).eval fun y3 =>
  some y3) else ((ref04_Before_r4 (ref04_Before_K d) y2).eval fun y4 =>
  bif y4.1 then ((ref04_Before_r5 (ref04_Before_K d) y4).eval fun y5 =>
  some y5) else ((ref04_Before_r6 (ref04_Before_K d) y4).eval fun y6 =>
  some y6))
theorem ref04_Before_cok (d : Nat) : COK prog (ref04_Before_sp (F_ref04_Before d)) := by
  have hm : prog.follows .mixedOrders = true := mixed
  have hT := tys
  have hC0 : OrcOK prog (orc (ref04_Before_tab (ref04_Before_K d))) := orc_ok (by
    intro S hS
    simp only [ref04_Before_tab, List.mem_cons, List.not_mem_nil, or_false] at hS
    subst hS; exact ref01_Compare_cok d)
  have hC : OrcOK prog (orc (ref04_Before_tab (ref04_Before_K d))) := hC0
  refine cok_of (c := bodyOf f135) (fn := f135) hT (by kernel_rfl) (by kernel_rfl) (by decide) fun x r h w0 φ0 Q hend => ?_
  replace h : F_ref04_Before d x = some r := h
  unfold F_ref04_Before at h
  show Run prog w0 φ0 30 (bodyOf f135) ⟨[(0, .agg [.int .i64 x.1.1, .int .i64 x.1.2.1, .int .i64 x.1.2.2.1, .int .i64 x.1.2.2.2.1]), (1, .agg [.int .i64 x.2.1.1, .int .i64 x.2.1.2.1, .int .i64 x.2.1.2.2.1, .int .i64 x.2.1.2.2.2.1])], []⟩ Q
  refine run_seq ?_
  refine run_reg hm hT hC (ref04_Before_g0 (ref04_Before_K d) (x.1.1, x.1.2.1, x.1.2.2.1, x.1.2.2.2.1, x.2.1.1, x.2.1.2.1, x.2.1.2.2.1, x.2.1.2.2.2.1)) h ?_
  intro y0 h
  refine cn_then ?_
  refine run_seq ?_
  refine run_seq ?_
  refine run_reg hm hT hC (ref04_Before_g1 (ref04_Before_K d) y0) h ?_
  intro y1 h
  refine cn_then ?_
  refine run_seq ?_
  refine run_reg hm hT hC (ref04_Before_g2 (ref04_Before_K d) y1) h ?_
  intro y2 h
  refine cn_then ?_
  refine run_cond (v := y2.2.1) (by kernel_rfl) h ?_ ?_
  ·
    intro h
    refine run_seq ?_
    refine run_reg hm hT hC (ref04_Before_g3 (ref04_Before_K d) y2) h ?_
    intro y3 h
    refine cn_then ?_
    refine run_ret ?_
    refine cn_then_ret ?_
    cases h
    exact (hend _ (by kernel_rfl)).2
  ·
    intro h
    refine run_skip ?_
    refine cn_then ?_
    refine run_seq ?_
    refine run_seq ?_
    refine run_reg hm hT hC (ref04_Before_g4 (ref04_Before_K d) y2) h ?_
    intro y4 h
    refine cn_then ?_
    refine run_cond (v := y4.1) (by kernel_rfl) h ?_ ?_
    ·
      intro h
      refine run_seq ?_
      refine run_reg hm hT hC (ref04_Before_g5 (ref04_Before_K d) y4) h ?_
      intro y5 h
      refine cn_then ?_
      refine run_ret ?_
      refine cn_then_ret ?_
      cases h
      exact (hend _ (by kernel_rfl)).2
    ·
      intro h
      refine run_skip ?_
      refine cn_then ?_
      refine run_seq ?_
      refine run_reg hm hT hC (ref04_Before_g6 (ref04_Before_K d) y4) h ?_
      intro y6 h
      refine cn_then ?_
      refine run_ret ?_
      cases h
      exact (hend _ (by kernel_rfl)).2
abbrev ref04_Pairs_ps : List Pk := [.row RLiiiE true]
abbrev ref04_Pairs_X : Type := DLiiiE × Unit
abbrev ref04_Pairs_R : Type := List Diiii
def ref04_Pairs_enc (r : ref04_Pairs_R) : LV × List Ob := (.rs 0, [.rows Riiii r])
def ref04_Pairs_sp (F : ref04_Pairs_X → Option ref04_Pairs_R) : Go.Tx.Spec := ⟨105, ref04_Pairs_ps, ref04_Pairs_R, F, ref04_Pairs_enc⟩
abbrev ref04_Pairs_C : Type := (ref02_Met_X → Option ref02_Met_R) × (ref04_Before_X → Option ref04_Before_R) × Unit
def ref04_Pairs_K (d : Nat) : ref04_Pairs_C := (F_ref02_Met d, F_ref04_Before d, ())
def ref04_Pairs_tab (C : ref04_Pairs_C) : List Go.Tx.Spec := [ref02_Met_sp C.1, ref04_Before_sp C.2.1]
abbrev ref04_Pairs_Y0i : Type := List Diii
def ref04_Pairs_S0i (v : ref04_Pairs_Y0i) : St := ⟨[(0, .agg [.fz Riii v])], []⟩
abbrev ref04_Pairs_Y0 : Type := List Diii
def ref04_Pairs_S0 (v : ref04_Pairs_Y0) : St := ⟨[(1, .ptr 0 0)], [.cells [.fz Riii v]]⟩
def ref04_Pairs_r0 (C : ref04_Pairs_C) (v : ref04_Pairs_Y0i) : Dt ref04_Pairs_Y0 := (Dt.ret v)
theorem ref04_Pairs_g0 (C : ref04_Pairs_C) (v : ref04_Pairs_Y0i) : treg tysT (orc (ref04_Pairs_tab C)) 92 (regO (bodyOf f105) 0) false [(1, (.box [.val Riii]))] (ref04_Pairs_S0i v) some = (ref04_Pairs_r0 C v).eval fun y => some (ref04_Pairs_S0 y) := by kernel_rfl
abbrev ref04_Pairs_Y1 : Type := List Diii × List Diiii
def ref04_Pairs_S1 (v : ref04_Pairs_Y1) : St := ⟨[(1, .ptr 0 0), (3, .rs 1)], [.cells [.fz Riii v.1], .rows Riiii v.2]⟩
def ref04_Pairs_r1 (C : ref04_Pairs_C) (v : ref04_Pairs_Y0) : Dt ref04_Pairs_Y1 := (Dt.ret (v, ([] : List Diiii)))
theorem ref04_Pairs_g1 (C : ref04_Pairs_C) (v : ref04_Pairs_Y0) : treg tysT (orc (ref04_Pairs_tab C)) 92 (regO (bodyOf f105) 1) false [(1, (.box [.val Riii])), (3, (.own Riiii))] (ref04_Pairs_S0 v) some = (ref04_Pairs_r1 C v).eval fun y => some (ref04_Pairs_S1 y) := by kernel_rfl
abbrev ref04_Pairs_Y2 : Type := Int × List Diii × List Diiii
def ref04_Pairs_S2 (v : ref04_Pairs_Y2) : St := ⟨[(1, .ptr 0 0), (3, .rs 1), (4, .int .i64 v.1)], [.cells [.fz Riii v.2.1], .rows Riiii v.2.2]⟩
def ref04_Pairs_r2 (C : ref04_Pairs_C) (v : ref04_Pairs_Y1) : Dt ref04_Pairs_Y2 := (Dt.ret ((0:Int), v.1, v.2))
theorem ref04_Pairs_g2 (C : ref04_Pairs_C) (v : ref04_Pairs_Y1) : treg tysT (orc (ref04_Pairs_tab C)) 92 (regO (bodyOf f105) 2) false [(1, (.box [.val Riii])), (3, (.own Riiii)), (4, .any)] (ref04_Pairs_S1 v) some = (ref04_Pairs_r2 C v).eval fun y => some (ref04_Pairs_S2 y) := by kernel_rfl
abbrev ref04_Pairs_Y3 : Type := Int × Bool × List Diii × List Diiii
def ref04_Pairs_S3 (v : ref04_Pairs_Y3) : St := ⟨[(1, .ptr 0 0), (3, .rs 1), (4, .int .i64 v.1), (14, .bool v.2.1)], [.cells [.fz Riii v.2.2.1], .rows Riiii v.2.2.2]⟩
def ref04_Pairs_r3 (C : ref04_Pairs_C) (v : ref04_Pairs_Y2) : Dt ref04_Pairs_Y3 := (Dt.ret (v.1, (decide (v.1 < (List.length v.2.1 : Int))), v.2.1, v.2.2))
theorem ref04_Pairs_g3 (C : ref04_Pairs_C) (v : ref04_Pairs_Y2) : treg tysT (orc (ref04_Pairs_tab C)) 92 (regO (bodyOf f105) 3) false [(1, (.box [.val Riii])), (3, (.own Riiii)), (4, .any), (14, .any)] (ref04_Pairs_S2 v) some = (ref04_Pairs_r3 C v).eval fun y => some (ref04_Pairs_S3 y) := by kernel_rfl
abbrev ref04_Pairs_Y5 : Type := Int × Int × List Diii × List Diiii
def ref04_Pairs_S5 (v : ref04_Pairs_Y5) : St := ⟨[(1, .ptr 0 0), (3, .rs 1), (4, .int .i64 v.1), (5, .int .i64 v.2.1)], [.cells [.fz Riii v.2.2.1], .rows Riiii v.2.2.2]⟩
def ref04_Pairs_r5 (C : ref04_Pairs_C) (v : ref04_Pairs_Y3) : Dt ref04_Pairs_Y5 := (Dt.ret (v.1, (IntKind.wrap .i64 (v.1 + (1:Int))), v.2.2.1, v.2.2.2))
theorem ref04_Pairs_g5 (C : ref04_Pairs_C) (v : ref04_Pairs_Y3) : treg tysT (orc (ref04_Pairs_tab C)) 92 (regO (bodyOf f105) 5) false [(1, (.box [.val Riii])), (3, (.own Riiii)), (4, .any), (5, .any)] (ref04_Pairs_S3 v) some = (ref04_Pairs_r5 C v).eval fun y => some (ref04_Pairs_S5 y) := by kernel_rfl
abbrev ref04_Pairs_Y6 : Type := Int × Int × Bool × List Diii × List Diiii
def ref04_Pairs_S6 (v : ref04_Pairs_Y6) : St := ⟨[(1, .ptr 0 0), (3, .rs 1), (4, .int .i64 v.1), (5, .int .i64 v.2.1), (23, .bool v.2.2.1)], [.cells [.fz Riii v.2.2.2.1], .rows Riiii v.2.2.2.2]⟩
def ref04_Pairs_r6 (C : ref04_Pairs_C) (v : ref04_Pairs_Y5) : Dt ref04_Pairs_Y6 := (Dt.ret (v.1, v.2.1, (decide (v.2.1 < (List.length v.2.2.1 : Int))), v.2.2.1, v.2.2.2))
theorem ref04_Pairs_g6 (C : ref04_Pairs_C) (v : ref04_Pairs_Y5) : treg tysT (orc (ref04_Pairs_tab C)) 92 (regO (bodyOf f105) 6) false [(1, (.box [.val Riii])), (3, (.own Riiii)), (4, .any), (5, .any), (23, .any)] (ref04_Pairs_S5 v) some = (ref04_Pairs_r6 C v).eval fun y => some (ref04_Pairs_S6 y) := by kernel_rfl
abbrev ref04_Pairs_Y8 : Type := Int × Int × List Diii × List Diiii × Int × Int × Int × Int × Int × Int
def ref04_Pairs_S8 (v : ref04_Pairs_Y8) : St := ⟨[(1, .ptr 0 0), (3, .rs 1), (4, .int .i64 v.1), (5, .int .i64 v.2.1), (6, .ptr 2 0), (7, .ptr 3 0)], [.cells [.fz Riii v.2.2.1], .rows Riiii v.2.2.2.1, .cells [.int .i64 v.2.2.2.2.1, .int .i64 v.2.2.2.2.2.1, .int .i64 v.2.2.2.2.2.2.1], .cells [.int .i64 v.2.2.2.2.2.2.2.1, .int .i64 v.2.2.2.2.2.2.2.2.1, .int .i64 v.2.2.2.2.2.2.2.2.2]]⟩
def ref04_Pairs_r8 (C : ref04_Pairs_C) (v : ref04_Pairs_Y6) : Dt ref04_Pairs_Y8 := (Dt.ite (inB v.1 (List.length v.2.2.2.1)) (Dt.ite (inB v.2.1 (List.length v.2.2.2.1)) (Dt.ret (v.1, v.2.1, v.2.2.2.1, v.2.2.2.2, (elt ziii v.2.2.2.1 (v.1).toNat).1, (elt ziii v.2.2.2.1 (v.1).toNat).2.1, (elt ziii v.2.2.2.1 (v.1).toNat).2.2.1, (elt ziii v.2.2.2.1 (v.2.1).toNat).1, (elt ziii v.2.2.2.1 (v.2.1).toNat).2.1, (elt ziii v.2.2.2.1 (v.2.1).toNat).2.2.1)) Dt.fail) Dt.fail)
theorem ref04_Pairs_g8 (C : ref04_Pairs_C) (v : ref04_Pairs_Y6) : treg tysT (orc (ref04_Pairs_tab C)) 92 (regO (bodyOf f105) 8) true [(1, (.box [.val Riii])), (3, (.own Riiii)), (4, .any), (5, .any), (6, .any), (7, .any)] (ref04_Pairs_S6 v) some = (ref04_Pairs_r8 C v).eval fun y => some (ref04_Pairs_S8 y) := by kernel_rfl
abbrev ref04_Pairs_Y9 : Type := Int × Int × Bool × List Diii × List Diiii × Int × Int × Int × Int × Int × Int
def ref04_Pairs_S9 (v : ref04_Pairs_Y9) : St := ⟨[(1, .ptr 0 0), (3, .rs 1), (4, .int .i64 v.1), (5, .int .i64 v.2.1), (6, .ptr 2 0), (7, .ptr 3 0), (40, .bool v.2.2.1)], [.cells [.fz Riii v.2.2.2.1], .rows Riiii v.2.2.2.2.1, .cells [.int .i64 v.2.2.2.2.2.1, .int .i64 v.2.2.2.2.2.2.1, .int .i64 v.2.2.2.2.2.2.2.1], .cells [.int .i64 v.2.2.2.2.2.2.2.2.1, .int .i64 v.2.2.2.2.2.2.2.2.2.1, .int .i64 v.2.2.2.2.2.2.2.2.2.2]]⟩
def ref04_Pairs_r9 (C : ref04_Pairs_C) (v : ref04_Pairs_Y8) : Dt ref04_Pairs_Y9 := (Dt.ret (v.1, v.2.1, (v.2.2.2.2.2.2.1 != v.2.2.2.2.2.2.2.2.2), v.2.2.1, v.2.2.2.1, v.2.2.2.2.1, v.2.2.2.2.2.1, v.2.2.2.2.2.2.1, v.2.2.2.2.2.2.2.1, v.2.2.2.2.2.2.2.2.1, v.2.2.2.2.2.2.2.2.2))
theorem ref04_Pairs_g9 (C : ref04_Pairs_C) (v : ref04_Pairs_Y8) : treg tysT (orc (ref04_Pairs_tab C)) 92 (regO (bodyOf f105) 9) false [(1, (.box [.val Riii])), (3, (.own Riiii)), (4, .any), (5, .any), (6, .any), (7, .any), (40, .any)] (ref04_Pairs_S8 v) some = (ref04_Pairs_r9 C v).eval fun y => some (ref04_Pairs_S9 y) := by kernel_rfl
def ref04_Pairs_r10 (C : ref04_Pairs_C) (v : ref04_Pairs_Y9) : Dt ref04_Pairs_Y5 := (Dt.bnd (C.1 ((v.2.2.2.2.2.1, v.2.2.2.2.2.2.1, v.2.2.2.2.2.2.2.1, ()), (v.2.2.2.2.2.2.2.2.1, v.2.2.2.2.2.2.2.2.2.1, v.2.2.2.2.2.2.2.2.2.2, ()), ())) fun r1 => (Dt.ite (apB (List.length v.2.2.2.2.1) (List.length ([(r1.1, r1.2, v.2.2.2.2.2.1, v.2.2.2.2.2.2.2.2.1, ())] : List Diiii))) (Dt.ret (v.1, v.2.1, v.2.2.2.1, (v.2.2.2.2.1 ++ ([(r1.1, r1.2, v.2.2.2.2.2.1, v.2.2.2.2.2.2.2.2.1, ())] : List Diiii)))) Dt.fail))
theorem ref04_Pairs_g10 (C : ref04_Pairs_C) (v : ref04_Pairs_Y9) : treg tysT (orc (ref04_Pairs_tab C)) 92 (regO (bodyOf f105) 10) true [(1, (.box [.val Riii])), (3, (.own Riiii)), (4, .any), (5, .any)] (ref04_Pairs_S9 v) some = (ref04_Pairs_r10 C v).eval fun y => some (ref04_Pairs_S5 y) := by kernel_rfl
def ref04_Pairs_r7 (C : ref04_Pairs_C) (v : ref04_Pairs_Y5) : Dt ref04_Pairs_Y5 := (Dt.ret (v.1, (IntKind.wrap .i64 (v.2.1 + (1:Int))), v.2.2.1, v.2.2.2))
theorem ref04_Pairs_g7 (C : ref04_Pairs_C) (v : ref04_Pairs_Y5) : treg tysT (orc (ref04_Pairs_tab C)) 92 (regO (bodyOf f105) 7) false [(1, (.box [.val Riii])), (3, (.own Riiii)), (4, .any), (5, .any)] (ref04_Pairs_S5 v) some = (ref04_Pairs_r7 C v).eval fun y => some (ref04_Pairs_S5 y) := by kernel_rfl
def ref04_Pairs_J3  (d : Nat) (self1 : (Int × List Diii × List Diiii) → Option ref04_Pairs_R) (self2 : (Int × Int × List Diii × List Diiii) → Option ref04_Pairs_R) (z : Int × Int × List Diii × List Diiii) : Option (ref04_Pairs_R) :=
  (ref04_Pairs_r7 (ref04_Pairs_K d) z).eval fun y7 =>
  self2 y7
def ref04_Pairs_r4 (C : ref04_Pairs_C) (v : ref04_Pairs_Y6) : Dt ref04_Pairs_Y2 := (Dt.ret ((IntKind.wrap .i64 (v.1 + (1:Int))), v.2.2.2.1, v.2.2.2.2))
theorem ref04_Pairs_g4 (C : ref04_Pairs_C) (v : ref04_Pairs_Y6) : treg tysT (orc (ref04_Pairs_tab C)) 92 (regO (bodyOf f105) 4) false [(1, (.box [.val Riii])), (3, (.own Riiii)), (4, .any)] (ref04_Pairs_S6 v) some = (ref04_Pairs_r4 C v).eval fun y => some (ref04_Pairs_S2 y) := by kernel_rfl
def ref04_Pairs_L2 (d : Nat) (self1 : (Int × List Diii × List Diiii) → Option ref04_Pairs_R) (self2 : (Int × Int × List Diii × List Diiii) → Option ref04_Pairs_R) (x2 : Int × Int × List Diii × List Diiii) : Option ref04_Pairs_R :=
  (ref04_Pairs_r6 (ref04_Pairs_K d) x2).eval fun y6 =>
  bif y6.2.2.1 then ((ref04_Pairs_r8 (ref04_Pairs_K d) y6).eval fun y8 =>
  (ref04_Pairs_r9 (ref04_Pairs_K d) y8).eval fun y9 =>
  bif y9.2.2.1 then ((ref04_Pairs_r10 (ref04_Pairs_K d) y9).eval fun y10 =>
  ref04_Pairs_J3 d self1 self2 y10) else (ref04_Pairs_J3 d self1 self2 (y9.1, y9.2.1, y9.2.2.2.1, y9.2.2.2.2.1))) else ((ref04_Pairs_r4 (ref04_Pairs_K d) y6).eval fun y4 =>
  self1 y4)
abbrev ref04_Pairs_Y11 : Type := Int × List Diiii
def ref04_Pairs_S11 (v : ref04_Pairs_Y11) : St := ⟨[(3, .rs 0), (8, .int .i64 v.1)], [.rows Riiii v.2]⟩
def ref04_Pairs_r11 (C : ref04_Pairs_C) (v : ref04_Pairs_Y3) : Dt ref04_Pairs_Y11 := (Dt.ret ((1:Int), v.2.2.2))
theorem ref04_Pairs_g11 (C : ref04_Pairs_C) (v : ref04_Pairs_Y3) : treg tysT (orc (ref04_Pairs_tab C)) 92 (regO (bodyOf f105) 11) false [(3, (.own Riiii)), (8, .any)] (ref04_Pairs_S3 v) some = (ref04_Pairs_r11 C v).eval fun y => some (ref04_Pairs_S11 y) := by kernel_rfl
abbrev ref04_Pairs_Y12 : Type := Int × Bool × List Diiii
def ref04_Pairs_S12 (v : ref04_Pairs_Y12) : St := ⟨[(3, .rs 0), (8, .int .i64 v.1), (55, .bool v.2.1)], [.rows Riiii v.2.2]⟩
def ref04_Pairs_r12 (C : ref04_Pairs_C) (v : ref04_Pairs_Y11) : Dt ref04_Pairs_Y12 := (Dt.ret (v.1, (decide (v.1 < (List.length v.2 : Int))), v.2))
theorem ref04_Pairs_g12 (C : ref04_Pairs_C) (v : ref04_Pairs_Y11) : treg tysT (orc (ref04_Pairs_tab C)) 92 (regO (bodyOf f105) 12) false [(3, (.own Riiii)), (8, .any), (55, .any)] (ref04_Pairs_S11 v) some = (ref04_Pairs_r12 C v).eval fun y => some (ref04_Pairs_S12 y) := by kernel_rfl
abbrev ref04_Pairs_Y14 : Type := Int × Int × List Diiii
def ref04_Pairs_S14 (v : ref04_Pairs_Y14) : St := ⟨[(3, .rs 0), (8, .int .i64 v.1), (9, .int .i64 v.2.1)], [.rows Riiii v.2.2]⟩
def ref04_Pairs_r14 (C : ref04_Pairs_C) (v : ref04_Pairs_Y12) : Dt ref04_Pairs_Y14 := (Dt.ret (v.1, v.1, v.2.2))
theorem ref04_Pairs_g14 (C : ref04_Pairs_C) (v : ref04_Pairs_Y12) : treg tysT (orc (ref04_Pairs_tab C)) 92 (regO (bodyOf f105) 14) false [(3, (.own Riiii)), (8, .any), (9, .any)] (ref04_Pairs_S12 v) some = (ref04_Pairs_r14 C v).eval fun y => some (ref04_Pairs_S14 y) := by kernel_rfl
abbrev ref04_Pairs_Y15 : Type := Int × Int × Bool × List Diiii
def ref04_Pairs_S15 (v : ref04_Pairs_Y15) : St := ⟨[(3, .rs 0), (8, .int .i64 v.1), (9, .int .i64 v.2.1), (72, .bool v.2.2.1)], [.rows Riiii v.2.2.2]⟩
def ref04_Pairs_r15 (C : ref04_Pairs_C) (v : ref04_Pairs_Y14) : Dt ref04_Pairs_Y15 := (Dt.ite (decide (v.2.1 > (0:Int))) (Dt.ite (inB v.2.1 (List.length v.2.2)) (Dt.ite (inB (IntKind.wrap .i64 (v.2.1 - (1:Int))) (List.length v.2.2)) (Dt.bnd (C.2.1 (((elt ziiii v.2.2 (v.2.1).toNat).1, (elt ziiii v.2.2 (v.2.1).toNat).2.1, (elt ziiii v.2.2 (v.2.1).toNat).2.2.1, (elt ziiii v.2.2 (v.2.1).toNat).2.2.2.1, ()), ((elt ziiii v.2.2 ((IntKind.wrap .i64 (v.2.1 - (1:Int)))).toNat).1, (elt ziiii v.2.2 ((IntKind.wrap .i64 (v.2.1 - (1:Int)))).toNat).2.1, (elt ziiii v.2.2 ((IntKind.wrap .i64 (v.2.1 - (1:Int)))).toNat).2.2.1, (elt ziiii v.2.2 ((IntKind.wrap .i64 (v.2.1 - (1:Int)))).toNat).2.2.2.1, ()), ())) fun r1 => (Dt.ret (v.1, v.2.1, r1, v.2.2))) Dt.fail) Dt.fail) (Dt.ret (v.1, v.2.1, false, v.2.2)))
theorem ref04_Pairs_g15 (C : ref04_Pairs_C) (v : ref04_Pairs_Y14) : treg tysT (orc (ref04_Pairs_tab C)) 92 (regO (bodyOf f105) 15) true [(3, (.own Riiii)), (8, .any), (9, .any), (72, .any)] (ref04_Pairs_S14 v) some = (ref04_Pairs_r15 C v).eval fun y => some (ref04_Pairs_S15 y) := by kernel_rfl
def ref04_Pairs_r17 (C : ref04_Pairs_C) (v : ref04_Pairs_Y15) : Dt ref04_Pairs_Y14 := (Dt.ite (inB (IntKind.wrap .i64 (v.2.1 - (1:Int))) (List.length v.2.2.2)) (Dt.ite (inB v.2.1 (List.length v.2.2.2)) (Dt.ite (inB v.2.1 (List.length v.2.2.2)) (Dt.ite (inB (IntKind.wrap .i64 (v.2.1 - (1:Int))) (List.length (List.set v.2.2.2 (v.2.1).toNat ((elt ziiii v.2.2.2 ((IntKind.wrap .i64 (v.2.1 - (1:Int)))).toNat).1, (elt ziiii v.2.2.2 ((IntKind.wrap .i64 (v.2.1 - (1:Int)))).toNat).2.1, (elt ziiii v.2.2.2 ((IntKind.wrap .i64 (v.2.1 - (1:Int)))).toNat).2.2.1, (elt ziiii v.2.2.2 ((IntKind.wrap .i64 (v.2.1 - (1:Int)))).toNat).2.2.2.1, ())))) (Dt.ret (v.1, v.2.1, (List.set (List.set v.2.2.2 (v.2.1).toNat ((elt ziiii v.2.2.2 ((IntKind.wrap .i64 (v.2.1 - (1:Int)))).toNat).1, (elt ziiii v.2.2.2 ((IntKind.wrap .i64 (v.2.1 - (1:Int)))).toNat).2.1, (elt ziiii v.2.2.2 ((IntKind.wrap .i64 (v.2.1 - (1:Int)))).toNat).2.2.1, (elt ziiii v.2.2.2 ((IntKind.wrap .i64 (v.2.1 - (1:Int)))).toNat).2.2.2.1, ())) ((IntKind.wrap .i64 (v.2.1 - (1:Int)))).toNat ((elt ziiii v.2.2.2 (v.2.1).toNat).1, (elt ziiii v.2.2.2 (v.2.1).toNat).2.1, (elt ziiii v.2.2.2 (v.2.1).toNat).2.2.1, (elt ziiii v.2.2.2 (v.2.1).toNat).2.2.2.1, ())))) Dt.fail) Dt.fail) Dt.fail) Dt.fail)
theorem ref04_Pairs_g17 (C : ref04_Pairs_C) (v : ref04_Pairs_Y15) : treg tysT (orc (ref04_Pairs_tab C)) 92 (regO (bodyOf f105) 17) true [(3, (.own Riiii)), (8, .any), (9, .any)] (ref04_Pairs_S15 v) some = (ref04_Pairs_r17 C v).eval fun y => some (ref04_Pairs_S14 y) := by kernel_rfl
def ref04_Pairs_r16 (C : ref04_Pairs_C) (v : ref04_Pairs_Y14) : Dt ref04_Pairs_Y14 := (Dt.ret (v.1, (IntKind.wrap .i64 (v.2.1 - (1:Int))), v.2.2))
theorem ref04_Pairs_g16 (C : ref04_Pairs_C) (v : ref04_Pairs_Y14) : treg tysT (orc (ref04_Pairs_tab C)) 92 (regO (bodyOf f105) 16) false [(3, (.own Riiii)), (8, .any), (9, .any)] (ref04_Pairs_S14 v) some = (ref04_Pairs_r16 C v).eval fun y => some (ref04_Pairs_S14 y) := by kernel_rfl
def ref04_Pairs_r13 (C : ref04_Pairs_C) (v : ref04_Pairs_Y15) : Dt ref04_Pairs_Y11 := (Dt.ret ((IntKind.wrap .i64 (v.1 + (1:Int))), v.2.2.2))
theorem ref04_Pairs_g13 (C : ref04_Pairs_C) (v : ref04_Pairs_Y15) : treg tysT (orc (ref04_Pairs_tab C)) 92 (regO (bodyOf f105) 13) false [(3, (.own Riiii)), (8, .any)] (ref04_Pairs_S15 v) some = (ref04_Pairs_r13 C v).eval fun y => some (ref04_Pairs_S11 y) := by kernel_rfl
def ref04_Pairs_L5 (d : Nat) (self4 : (Int × List Diiii) → Option ref04_Pairs_R) (self5 : (Int × Int × List Diiii) → Option ref04_Pairs_R) (x5 : Int × Int × List Diiii) : Option ref04_Pairs_R :=
  (ref04_Pairs_r15 (ref04_Pairs_K d) x5).eval fun y15 =>
  bif y15.2.2.1 then ((ref04_Pairs_r17 (ref04_Pairs_K d) y15).eval fun y17 =>
  (ref04_Pairs_r16 (ref04_Pairs_K d) y17).eval fun y16 =>
  self5 y16) else ((ref04_Pairs_r13 (ref04_Pairs_K d) y15).eval fun y13 =>
  self4 y13)
abbrev ref04_Pairs_Y18 : Type := List Diiii
def ref04_Pairs_S18 (v : ref04_Pairs_Y18) : St := ⟨[(2, .rs 0)], [.rows Riiii v]⟩
def ref04_Pairs_r18 (C : ref04_Pairs_C) (v : ref04_Pairs_Y12) : Dt ref04_Pairs_Y18 := (Dt.ret v.2.2)
theorem ref04_Pairs_g18 (C : ref04_Pairs_C) (v : ref04_Pairs_Y12) : treg tysT (orc (ref04_Pairs_tab C)) 92 (regO (bodyOf f105) 18) false [(2, (.own Riiii))] (ref04_Pairs_S12 v) some = (ref04_Pairs_r18 C v).eval fun y => some (ref04_Pairs_S18 y) := by kernel_rfl
def ref04_Pairs_L4 (d : Nat) (self4 : (Int × List Diiii) → Option ref04_Pairs_R) (x4 : Int × List Diiii) : Option ref04_Pairs_R :=
  (ref04_Pairs_r12 (ref04_Pairs_K d) x4).eval fun y12 =>
  bif y12.2.1 then ((ref04_Pairs_r14 (ref04_Pairs_K d) y12).eval fun y14 =>
  iter (ref04_Pairs_L5 d self4) d y14) else ((ref04_Pairs_r18 (ref04_Pairs_K d) y12).eval fun y18 =>
  some y18)
def ref04_Pairs_L1 (d : Nat) (self1 : (Int × List Diii × List Diiii) → Option ref04_Pairs_R) (x1 : Int × List Diii × List Diiii) : Option ref04_Pairs_R :=
  (ref04_Pairs_r3 (ref04_Pairs_K d) x1).eval fun y3 =>
  bif y3.2.1 then ((ref04_Pairs_r5 (ref04_Pairs_K d) y3).eval fun y5 =>
  iter (ref04_Pairs_L2 d self1) d y5) else ((ref04_Pairs_r11 (ref04_Pairs_K d) y3).eval fun y11 =>
  iter (ref04_Pairs_L4 d ) d y11)
def F_ref04_Pairs (d : Nat) (x : ref04_Pairs_X) : Option ref04_Pairs_R :=
  (ref04_Pairs_r0 (ref04_Pairs_K d) x.1.1).eval fun y0 =>
  (ref04_Pairs_r1 (ref04_Pairs_K d) y0).eval fun y1 =>
  (ref04_Pairs_r2 (ref04_Pairs_K d) y1).eval fun y2 =>
  iter (ref04_Pairs_L1 d ) d y2
theorem ref04_Pairs_cok (d : Nat) : COK prog (ref04_Pairs_sp (F_ref04_Pairs d)) := by
  have hm : prog.follows .mixedOrders = true := mixed
  have hT := tys
  have hC0 : OrcOK prog (orc (ref04_Pairs_tab (ref04_Pairs_K d))) := orc_ok (by
    intro S hS
    simp only [ref04_Pairs_tab, List.mem_cons, List.not_mem_nil, or_false] at hS
    rcases hS with rfl | rfl
    · exact ref02_Met_cok d
    · exact ref04_Before_cok d)
  have hC : OrcOK prog (orc (ref04_Pairs_tab (ref04_Pairs_K d))) := hC0
  refine cok_of (c := bodyOf f105) (fn := f105) hT (by kernel_rfl) (by kernel_rfl) (by decide) fun x r h w0 φ0 Q hend => ?_
  replace h : F_ref04_Pairs d x = some r := h
  unfold F_ref04_Pairs at h
  show Run prog w0 φ0 92 (bodyOf f105) ⟨[(0, .agg [.fz Riii x.1.1])], []⟩ Q
  refine run_seq ?_
  refine run_reg hm hT hC (ref04_Pairs_g0 (ref04_Pairs_K d) x.1.1) h ?_
  intro y0 h
  refine cn_then ?_
  refine run_seq ?_
  refine run_reg hm hT hC (ref04_Pairs_g1 (ref04_Pairs_K d) y0) h ?_
  intro y1 h
  refine cn_then ?_
  refine run_seq ?_
  refine run_seq ?_
  refine run_reg hm hT hC (ref04_Pairs_g2 (ref04_Pairs_K d) y1) h ?_
  intro y2 h
  refine cn_then ?_
  refine run_block ?_
  refine run_loop (G := iter (ref04_Pairs_L1 d )) (S := (fun x1 => ⟨[(1, .ptr 0 0), (3, .rs 1), (4, .int .i64 x1.1)], [.cells [.fz Riii x1.2.1], .rows Riiii x1.2.2]⟩ : Int × List Diii × List Diiii → St)) (fun _ => rfl) ?_ d _ h
  intro n1 x1 h K1 hn1
  replace h : ref04_Pairs_L1 d  (iter (ref04_Pairs_L1 d ) n1) x1 = some r := h
  generalize iter (ref04_Pairs_L1 d ) n1 = self1 at h hn1
  unfold ref04_Pairs_L1 at h
  refine run_seq ?_
  refine run_seq ?_
  refine run_reg hm hT hC (ref04_Pairs_g3 (ref04_Pairs_K d) x1) h ?_
  intro y3 h
  refine cn_then ?_
  refine run_cond (v := y3.2.1) (by kernel_rfl) h ?_ ?_
  ·
    intro h
    refine run_skip ?_
    refine cn_then ?_
    refine run_seq ?_
    refine run_block ?_
    refine run_seq ?_
    refine run_reg hm hT hC (ref04_Pairs_g5 (ref04_Pairs_K d) y3) h ?_
    intro y5 h
    refine cn_then ?_
    refine run_block ?_
    refine run_loop (G := iter (ref04_Pairs_L2 d self1)) (S := (fun x2 => ⟨[(1, .ptr 0 0), (3, .rs 1), (4, .int .i64 x2.1), (5, .int .i64 x2.2.1)], [.cells [.fz Riii x2.2.2.1], .rows Riiii x2.2.2.2]⟩ : Int × Int × List Diii × List Diiii → St)) (fun _ => rfl) ?_ d _ h
    intro n2 x2 h K2 hn2
    replace h : ref04_Pairs_L2 d self1 (iter (ref04_Pairs_L2 d self1) n2) x2 = some r := h
    generalize iter (ref04_Pairs_L2 d self1) n2 = self2 at h hn2
    unfold ref04_Pairs_L2 at h
    refine run_seq ?_
    refine run_seq ?_
    refine run_reg hm hT hC (ref04_Pairs_g6 (ref04_Pairs_K d) x2) h ?_
    intro y6 h
    refine cn_then ?_
    refine run_cond (v := y6.2.2.1) (by kernel_rfl) h ?_ ?_
    ·
      intro h
      refine run_skip ?_
      refine cn_then ?_
      refine run_join (r := r) (F := ref04_Pairs_J3 d self1 self2) (S := (fun z => ⟨[(1, .ptr 0 0), (3, .rs 1), (4, .int .i64 z.1), (5, .int .i64 z.2.1)], [.cells [.fz Riii z.2.2.1], .rows Riiii z.2.2.2]⟩ : Int × Int × List Diii × List Diiii → St)) ?_ ?_
      ·
        intro z h
        unfold ref04_Pairs_J3 at h
        refine run_reg hm hT hC (ref04_Pairs_g7 (ref04_Pairs_K d) z) h ?_
        intro y7 h
        exact hn2 _ h
      intro hj3
      refine run_block ?_
      refine run_seq ?_
      refine run_reg hm hT hC (ref04_Pairs_g8 (ref04_Pairs_K d) y6) h ?_
      intro y8 h
      refine cn_then ?_
      refine run_seq ?_
      refine run_reg hm hT hC (ref04_Pairs_g9 (ref04_Pairs_K d) y8) h ?_
      intro y9 h
      refine cn_then ?_
      refine run_cond (v := y9.2.2.1) (by kernel_rfl) h ?_ ?_
      ·
        intro h
        refine run_reg hm hT hC (ref04_Pairs_g10 (ref04_Pairs_K d) y9) h ?_
        intro y10 h
        refine cn_blk ?_
        exact hj3 _ h
      ·
        intro h
        refine run_skip ?_
        refine cn_blk ?_
        refine cn_num (s := ⟨[(1, .ptr 0 0), (3, .rs 1), (4, .int .i64 y9.1), (5, .int .i64 y9.2.1)], [.cells [.fz Riii y9.2.2.2.1], .rows Riiii y9.2.2.2.2.1]⟩) [6, 7, 40] (by kernel_rfl) ?_
        exact hj3 _ h
    ·
      intro h
      refine run_exit ?_
      refine cn_then_exit ?_
      refine cn_then_exit ?_
      refine cn_blk_eq ?_
      refine cn_blk ?_
      refine cn_then ?_
      refine run_reg hm hT hC (ref04_Pairs_g4 (ref04_Pairs_K d) y6) h ?_
      intro y4 h
      exact hn1 _ h
  ·
    intro h
    refine run_exit ?_
    refine cn_then_exit ?_
    refine cn_then_exit ?_
    refine cn_blk_eq ?_
    refine cn_then ?_
    refine run_seq ?_
    refine run_seq ?_
    refine run_reg hm hT hC (ref04_Pairs_g11 (ref04_Pairs_K d) y3) h ?_
    intro y11 h
    refine cn_then ?_
    refine run_block ?_
    refine run_loop (G := iter (ref04_Pairs_L4 d )) (S := (fun x4 => ⟨[(3, .rs 0), (8, .int .i64 x4.1)], [.rows Riiii x4.2]⟩ : Int × List Diiii → St)) (fun _ => rfl) ?_ d _ h
    intro n4 x4 h K4 hn4
    replace h : ref04_Pairs_L4 d  (iter (ref04_Pairs_L4 d ) n4) x4 = some r := h
    generalize iter (ref04_Pairs_L4 d ) n4 = self4 at h hn4
    unfold ref04_Pairs_L4 at h
    refine run_seq ?_
    refine run_seq ?_
    refine run_reg hm hT hC (ref04_Pairs_g12 (ref04_Pairs_K d) x4) h ?_
    intro y12 h
    refine cn_then ?_
    refine run_cond (v := y12.2.1) (by kernel_rfl) h ?_ ?_
    ·
      intro h
      refine run_skip ?_
      refine cn_then ?_
      refine run_seq ?_
      refine run_block ?_
      refine run_seq ?_
      refine run_reg hm hT hC (ref04_Pairs_g14 (ref04_Pairs_K d) y12) h ?_
      intro y14 h
      refine cn_then ?_
      refine run_block ?_
      refine run_loop (G := iter (ref04_Pairs_L5 d self4)) (S := (fun x5 => ⟨[(3, .rs 0), (8, .int .i64 x5.1), (9, .int .i64 x5.2.1)], [.rows Riiii x5.2.2]⟩ : Int × Int × List Diiii → St)) (fun _ => rfl) ?_ d _ h
      intro n5 x5 h K5 hn5
      replace h : ref04_Pairs_L5 d self4 (iter (ref04_Pairs_L5 d self4) n5) x5 = some r := h
      generalize iter (ref04_Pairs_L5 d self4) n5 = self5 at h hn5
      unfold ref04_Pairs_L5 at h
      refine run_seq ?_
      refine run_seq ?_
      refine run_reg hm hT hC (ref04_Pairs_g15 (ref04_Pairs_K d) x5) h ?_
      intro y15 h
      refine cn_then ?_
      refine run_cond (v := y15.2.2.1) (by kernel_rfl) h ?_ ?_
      ·
        intro h
        refine run_skip ?_
        refine cn_then ?_
        refine run_seq ?_
        refine run_block ?_
        refine run_reg hm hT hC (ref04_Pairs_g17 (ref04_Pairs_K d) y15) h ?_
        intro y17 h
        refine cn_blk ?_
        refine cn_then ?_
        refine run_reg hm hT hC (ref04_Pairs_g16 (ref04_Pairs_K d) y17) h ?_
        intro y16 h
        exact hn5 _ h
      ·
        intro h
        refine run_exit ?_
        refine cn_then_exit ?_
        refine cn_then_exit ?_
        refine cn_blk_eq ?_
        refine cn_blk ?_
        refine cn_then ?_
        refine run_reg hm hT hC (ref04_Pairs_g13 (ref04_Pairs_K d) y15) h ?_
        intro y13 h
        exact hn4 _ h
    ·
      intro h
      refine run_exit ?_
      refine cn_then_exit ?_
      refine cn_then_exit ?_
      refine cn_blk_eq ?_
      refine cn_then ?_
      refine run_seq ?_
      refine run_reg hm hT hC (ref04_Pairs_g18 (ref04_Pairs_K d) y12) h ?_
      intro y18 h
      refine cn_then ?_
      refine run_ret ?_
      cases h
      exact (hend _ (by kernel_rfl)).2
abbrev ref04_Same_ps : List Pk := [.row RLiiiiE false, .row RLiiiiE false]
abbrev ref04_Same_X : Type := DLiiiiE × DLiiiiE × Unit
abbrev ref04_Same_R : Type := Bool
def ref04_Same_enc (r : ref04_Same_R) : LV × List Ob := (.bool r, [])
def ref04_Same_sp (F : ref04_Same_X → Option ref04_Same_R) : Go.Tx.Spec := ⟨34, ref04_Same_ps, ref04_Same_R, F, ref04_Same_enc⟩
abbrev ref04_Same_C : Type := Unit
def ref04_Same_K (_d : Nat) : ref04_Same_C := ()
def ref04_Same_tab (C : ref04_Same_C) : List Go.Tx.Spec := []
abbrev ref04_Same_Y0i : Type := List Diiii × List Diiii
def ref04_Same_S0i (v : ref04_Same_Y0i) : St := ⟨[(0, .fz Riiii v.1), (1, .fz Riiii v.2)], []⟩
def ref04_Same_r0 (C : ref04_Same_C) (v : ref04_Same_Y0i) : Dt ref04_Same_Y0i := (Dt.ret (v.1, v.2))
theorem ref04_Same_g0 (C : ref04_Same_C) (v : ref04_Same_Y0i) : treg tysT (orc (ref04_Same_tab C)) 26 (regO (bodyOf f34) 0) false [(0, (.val Riiii)), (1, (.val Riiii))] (ref04_Same_S0i v) some = (ref04_Same_r0 C v).eval fun y => some (ref04_Same_S0i y) := by kernel_rfl
abbrev ref04_Same_Y1 : Type := List Diiii × List Diiii × Bool
def ref04_Same_S1 (v : ref04_Same_Y1) : St := ⟨[(0, .fz Riiii v.1), (1, .fz Riiii v.2.1), (10, .bool v.2.2)], []⟩
def ref04_Same_r1 (C : ref04_Same_C) (v : ref04_Same_Y0i) : Dt ref04_Same_Y1 := (Dt.ret (v.1, v.2, ((List.length v.1 : Int) != (List.length v.2 : Int))))
theorem ref04_Same_g1 (C : ref04_Same_C) (v : ref04_Same_Y0i) : treg tysT (orc (ref04_Same_tab C)) 26 (regO (bodyOf f34) 1) false [(0, (.val Riiii)), (1, (.val Riiii)), (10, .any)] (ref04_Same_S0i v) some = (ref04_Same_r1 C v).eval fun y => some (ref04_Same_S1 y) := by kernel_rfl
abbrev ref04_Same_Y2 : Type := Bool
def ref04_Same_S2 (v : ref04_Same_Y2) : St := ⟨[(4, .bool v)], []⟩
def ref04_Same_r2 (C : ref04_Same_C) (v : ref04_Same_Y1) : Dt ref04_Same_Y2 := (Dt.ret false)
theorem ref04_Same_g2 (C : ref04_Same_C) (v : ref04_Same_Y1) : treg tysT (orc (ref04_Same_tab C)) 26 (regO (bodyOf f34) 2) false [(4, .any)] (ref04_Same_S1 v) some = (ref04_Same_r2 C v).eval fun y => some (ref04_Same_S2 y) := by kernel_rfl
abbrev ref04_Same_Y3 : Type := List Diiii × List Diiii × Int
def ref04_Same_S3 (v : ref04_Same_Y3) : St := ⟨[(0, .fz Riiii v.1), (1, .fz Riiii v.2.1), (5, .int .i64 v.2.2)], []⟩
def ref04_Same_r3 (C : ref04_Same_C) (v : ref04_Same_Y1) : Dt ref04_Same_Y3 := (Dt.ret (v.1, v.2.1, (0:Int)))
theorem ref04_Same_g3 (C : ref04_Same_C) (v : ref04_Same_Y1) : treg tysT (orc (ref04_Same_tab C)) 26 (regO (bodyOf f34) 3) false [(0, (.val Riiii)), (1, (.val Riiii)), (5, .any)] (ref04_Same_S1 v) some = (ref04_Same_r3 C v).eval fun y => some (ref04_Same_S3 y) := by kernel_rfl
abbrev ref04_Same_Y4 : Type := List Diiii × List Diiii × Int × Bool
def ref04_Same_S4 (v : ref04_Same_Y4) : St := ⟨[(0, .fz Riiii v.1), (1, .fz Riiii v.2.1), (5, .int .i64 v.2.2.1), (14, .bool v.2.2.2)], []⟩
def ref04_Same_r4 (C : ref04_Same_C) (v : ref04_Same_Y3) : Dt ref04_Same_Y4 := (Dt.ret (v.1, v.2.1, v.2.2, (decide (v.2.2 < (List.length v.1 : Int)))))
theorem ref04_Same_g4 (C : ref04_Same_C) (v : ref04_Same_Y3) : treg tysT (orc (ref04_Same_tab C)) 26 (regO (bodyOf f34) 4) false [(0, (.val Riiii)), (1, (.val Riiii)), (5, .any), (14, .any)] (ref04_Same_S3 v) some = (ref04_Same_r4 C v).eval fun y => some (ref04_Same_S4 y) := by kernel_rfl
abbrev ref04_Same_Y6 : Type := List Diiii × List Diiii × Int × Bool
def ref04_Same_S6 (v : ref04_Same_Y6) : St := ⟨[(0, .fz Riiii v.1), (1, .fz Riiii v.2.1), (5, .int .i64 v.2.2.1), (25, .bool v.2.2.2)], []⟩
def ref04_Same_r6 (C : ref04_Same_C) (v : ref04_Same_Y4) : Dt ref04_Same_Y6 := (Dt.ite (inB v.2.2.1 (List.length v.1)) (Dt.ite (inB v.2.2.1 (List.length v.2.1)) (Dt.ret (v.1, v.2.1, v.2.2.1, (!(((elt ziiii v.1 (v.2.2.1).toNat).1 == (elt ziiii v.2.1 (v.2.2.1).toNat).1) && (((elt ziiii v.1 (v.2.2.1).toNat).2.1 == (elt ziiii v.2.1 (v.2.2.1).toNat).2.1) && (((elt ziiii v.1 (v.2.2.1).toNat).2.2.1 == (elt ziiii v.2.1 (v.2.2.1).toNat).2.2.1) && (((elt ziiii v.1 (v.2.2.1).toNat).2.2.2.1 == (elt ziiii v.2.1 (v.2.2.1).toNat).2.2.2.1) && true))))))) Dt.fail) Dt.fail)
theorem ref04_Same_g6 (C : ref04_Same_C) (v : ref04_Same_Y4) : treg tysT (orc (ref04_Same_tab C)) 26 (regO (bodyOf f34) 6) true [(0, (.val Riiii)), (1, (.val Riiii)), (5, .any), (25, .any)] (ref04_Same_S4 v) some = (ref04_Same_r6 C v).eval fun y => some (ref04_Same_S6 y) := by kernel_rfl
def ref04_Same_r7 (C : ref04_Same_C) (v : ref04_Same_Y6) : Dt ref04_Same_Y2 := (Dt.ret false)
theorem ref04_Same_g7 (C : ref04_Same_C) (v : ref04_Same_Y6) : treg tysT (orc (ref04_Same_tab C)) 26 (regO (bodyOf f34) 7) false [(4, .any)] (ref04_Same_S6 v) some = (ref04_Same_r7 C v).eval fun y => some (ref04_Same_S2 y) := by kernel_rfl
def ref04_Same_r5 (C : ref04_Same_C) (v : ref04_Same_Y6) : Dt ref04_Same_Y3 := (Dt.ret (v.1, v.2.1, (IntKind.wrap .i64 (v.2.2.1 + (1:Int)))))
theorem ref04_Same_g5 (C : ref04_Same_C) (v : ref04_Same_Y6) : treg tysT (orc (ref04_Same_tab C)) 26 (regO (bodyOf f34) 5) false [(0, (.val Riiii)), (1, (.val Riiii)), (5, .any)] (ref04_Same_S6 v) some = (ref04_Same_r5 C v).eval fun y => some (ref04_Same_S3 y) := by kernel_rfl
def ref04_Same_r8 (C : ref04_Same_C) (v : ref04_Same_Y4) : Dt ref04_Same_Y2 := (Dt.ret true)
theorem ref04_Same_g8 (C : ref04_Same_C) (v : ref04_Same_Y4) : treg tysT (orc (ref04_Same_tab C)) 26 (regO (bodyOf f34) 8) false [(4, .any)] (ref04_Same_S4 v) some = (ref04_Same_r8 C v).eval fun y => some (ref04_Same_S2 y) := by kernel_rfl
def ref04_Same_L1 (d : Nat) (self1 : (List Diiii × List Diiii × Int) → Option ref04_Same_R) (x1 : List Diiii × List Diiii × Int) : Option ref04_Same_R :=
  (ref04_Same_r4 (ref04_Same_K d) x1).eval fun y4 =>
  bif y4.2.2.2 then ((ref04_Same_r6 (ref04_Same_K d) y4).eval fun y6 =>
  bif y6.2.2.2 then ((ref04_Same_r7 (ref04_Same_K d) y6).eval fun y7 =>
  some y7) else ((ref04_Same_r5 (ref04_Same_K d) y6).eval fun y5 =>
  self1 y5)) else ((ref04_Same_r8 (ref04_Same_K d) y4).eval fun y8 =>
  some y8)
def F_ref04_Same (d : Nat) (x : ref04_Same_X) : Option ref04_Same_R :=
  (ref04_Same_r0 (ref04_Same_K d) (x.1.1, x.2.1.1)).eval fun y0 =>
  (ref04_Same_r1 (ref04_Same_K d) y0).eval fun y1 =>
  bif y1.2.2 then ((ref04_Same_r2 (ref04_Same_K d) y1).eval fun y2 =>
  some y2) else ((ref04_Same_r3 (ref04_Same_K d) y1).eval fun y3 =>
  iter (ref04_Same_L1 d ) d y3)
theorem ref04_Same_cok (d : Nat) : COK prog (ref04_Same_sp (F_ref04_Same d)) := by
  have hm : prog.follows .mixedOrders = true := mixed
  have hT := tys
  have hC0 : OrcOK prog (orc (ref04_Same_tab (ref04_Same_K d))) := orc_ok (by
    intro S hS
    simp only [ref04_Same_tab, List.mem_cons, List.not_mem_nil, or_false] at hS
    all_goals first | cases hS | exact hS.elim)
  have hC : OrcOK prog (orc (ref04_Same_tab (ref04_Same_K d))) := hC0
  refine cok_of (c := bodyOf f34) (fn := f34) hT (by kernel_rfl) (by kernel_rfl) (by decide) fun x r h w0 φ0 Q hend => ?_
  replace h : F_ref04_Same d x = some r := h
  unfold F_ref04_Same at h
  show Run prog w0 φ0 26 (bodyOf f34) ⟨[(0, .fz Riiii x.1.1), (1, .fz Riiii x.2.1.1)], []⟩ Q
  refine run_seq ?_
  refine run_reg hm hT hC (ref04_Same_g0 (ref04_Same_K d) (x.1.1, x.2.1.1)) h ?_
  intro y0 h
  refine cn_then ?_
  refine run_seq ?_
  refine run_seq ?_
  refine run_reg hm hT hC (ref04_Same_g1 (ref04_Same_K d) y0) h ?_
  intro y1 h
  refine cn_then ?_
  refine run_cond (v := y1.2.2) (by kernel_rfl) h ?_ ?_
  ·
    intro h
    refine run_seq ?_
    refine run_reg hm hT hC (ref04_Same_g2 (ref04_Same_K d) y1) h ?_
    intro y2 h
    refine cn_then ?_
    refine run_ret ?_
    refine cn_then_ret ?_
    cases h
    exact (hend _ (by kernel_rfl)).2
  ·
    intro h
    refine run_skip ?_
    refine cn_then ?_
    refine run_seq ?_
    refine run_seq ?_
    refine run_reg hm hT hC (ref04_Same_g3 (ref04_Same_K d) y1) h ?_
    intro y3 h
    refine cn_then ?_
    refine run_block ?_
    refine run_loop (G := iter (ref04_Same_L1 d )) (S := (fun x1 => ⟨[(0, .fz Riiii x1.1), (1, .fz Riiii x1.2.1), (5, .int .i64 x1.2.2)], []⟩ : List Diiii × List Diiii × Int → St)) (fun _ => rfl) ?_ d _ h
    intro n1 x1 h K1 hn1
    replace h : ref04_Same_L1 d  (iter (ref04_Same_L1 d ) n1) x1 = some r := h
    generalize iter (ref04_Same_L1 d ) n1 = self1 at h hn1
    unfold ref04_Same_L1 at h
    refine run_seq ?_
    refine run_seq ?_
    refine run_reg hm hT hC (ref04_Same_g4 (ref04_Same_K d) x1) h ?_
    intro y4 h
    refine cn_then ?_
    refine run_cond (v := y4.2.2.2) (by kernel_rfl) h ?_ ?_
    ·
      intro h
      refine run_skip ?_
      refine cn_then ?_
      refine run_seq ?_
      refine run_block ?_
      refine run_seq ?_
      refine run_reg hm hT hC (ref04_Same_g6 (ref04_Same_K d) y4) h ?_
      intro y6 h
      refine cn_then ?_
      refine run_cond (v := y6.2.2.2) (by kernel_rfl) h ?_ ?_
      ·
        intro h
        refine run_seq ?_
        refine run_reg hm hT hC (ref04_Same_g7 (ref04_Same_K d) y6) h ?_
        intro y7 h
        refine cn_then ?_
        refine run_ret ?_
        refine cn_blk_ret ?_
        refine cn_then_ret ?_
        refine cn_then_ret ?_
        refine cn_blk_ret ?_
        refine cn_then_ret ?_
        cases h
        exact (hend _ (by kernel_rfl)).2
      ·
        intro h
        refine run_skip ?_
        refine cn_blk ?_
        refine cn_then ?_
        refine run_reg hm hT hC (ref04_Same_g5 (ref04_Same_K d) y6) h ?_
        intro y5 h
        exact hn1 _ h
    ·
      intro h
      refine run_exit ?_
      refine cn_then_exit ?_
      refine cn_then_exit ?_
      refine cn_blk_eq ?_
      refine cn_then ?_
      refine run_seq ?_
      refine run_reg hm hT hC (ref04_Same_g8 (ref04_Same_K d) y4) h ?_
      intro y8 h
      refine cn_then ?_
      refine run_ret ?_
      cases h
      exact (hend _ (by kernel_rfl)).2
abbrev ref34_Other_ps : List Pk := [.row Riiii true, .row Ri false]
abbrev ref34_Other_X : Type := Diiii × Di × Unit
abbrev ref34_Other_R : Type := Int
def ref34_Other_enc (r : ref34_Other_R) : LV × List Ob := (.int .i64 r, [])
def ref34_Other_sp (F : ref34_Other_X → Option ref34_Other_R) : Go.Tx.Spec := ⟨48, ref34_Other_ps, ref34_Other_R, F, ref34_Other_enc⟩
abbrev ref34_Other_C : Type := Unit
def ref34_Other_K (_d : Nat) : ref34_Other_C := ()
def ref34_Other_tab (C : ref34_Other_C) : List Go.Tx.Spec := []
abbrev ref34_Other_Y0i : Type := Int × Int × Int × Int × Int
def ref34_Other_S0i (v : ref34_Other_Y0i) : St := ⟨[(0, .agg [.int .i64 v.1, .int .i64 v.2.1, .int .i64 v.2.2.1, .int .i64 v.2.2.2.1]), (1, .int .i64 v.2.2.2.2)], []⟩
abbrev ref34_Other_Y0 : Type := Int × Int × Int × Int × Int
def ref34_Other_S0 (v : ref34_Other_Y0) : St := ⟨[(1, .int .i64 v.1), (2, .ptr 0 0)], [.cells [.int .i64 v.2.1, .int .i64 v.2.2.1, .int .i64 v.2.2.2.1, .int .i64 v.2.2.2.2]]⟩
def ref34_Other_r0 (C : ref34_Other_C) (v : ref34_Other_Y0i) : Dt ref34_Other_Y0 := (Dt.ret (v.2.2.2.2, v.1, v.2.1, v.2.2.1, v.2.2.2.1))
theorem ref34_Other_g0 (C : ref34_Other_C) (v : ref34_Other_Y0i) : treg tysT (orc (ref34_Other_tab C)) 13 (regO (bodyOf f48) 0) false [(1, .any), (2, .any)] (ref34_Other_S0i v) some = (ref34_Other_r0 C v).eval fun y => some (ref34_Other_S0 y) := by kernel_rfl
abbrev ref34_Other_Y1 : Type := Bool × Int × Int × Int × Int
def ref34_Other_S1 (v : ref34_Other_Y1) : St := ⟨[(2, .ptr 0 0), (8, .bool v.1)], [.cells [.int .i64 v.2.1, .int .i64 v.2.2.1, .int .i64 v.2.2.2.1, .int .i64 v.2.2.2.2]]⟩
def ref34_Other_r1 (C : ref34_Other_C) (v : ref34_Other_Y0) : Dt ref34_Other_Y1 := (Dt.ret ((v.2.2.2.1 == v.1), v.2.1, v.2.2.1, v.2.2.2.1, v.2.2.2.2))
theorem ref34_Other_g1 (C : ref34_Other_C) (v : ref34_Other_Y0) : treg tysT (orc (ref34_Other_tab C)) 13 (regO (bodyOf f48) 1) false [(2, .any), (8, .any)] (ref34_Other_S0 v) some = (ref34_Other_r1 C v).eval fun y => some (ref34_Other_S1 y) := by kernel_rfl
abbrev ref34_Other_Y2 : Type := Int
def ref34_Other_S2 (v : ref34_Other_Y2) : St := ⟨[(4, .int .i64 v)], []⟩
def ref34_Other_r2 (C : ref34_Other_C) (v : ref34_Other_Y1) : Dt ref34_Other_Y2 := (Dt.ret v.2.2.2.2)
theorem ref34_Other_g2 (C : ref34_Other_C) (v : ref34_Other_Y1) : treg tysT (orc (ref34_Other_tab C)) 13 (regO (bodyOf f48) 2) false [(4, .any)] (ref34_Other_S1 v) some = (ref34_Other_r2 C v).eval fun y => some (ref34_Other_S2 y) := by kernel_rfl
def ref34_Other_r3 (C : ref34_Other_C) (v : ref34_Other_Y1) : Dt ref34_Other_Y2 := (Dt.ret v.2.2.2.1)
theorem ref34_Other_g3 (C : ref34_Other_C) (v : ref34_Other_Y1) : treg tysT (orc (ref34_Other_tab C)) 13 (regO (bodyOf f48) 3) false [(4, .any)] (ref34_Other_S1 v) some = (ref34_Other_r3 C v).eval fun y => some (ref34_Other_S2 y) := by kernel_rfl
def F_ref34_Other (d : Nat) (x : ref34_Other_X) : Option ref34_Other_R :=
  (ref34_Other_r0 (ref34_Other_K d) (x.1.1, x.1.2.1, x.1.2.2.1, x.1.2.2.2.1, x.2.1.1)).eval fun y0 =>
  (ref34_Other_r1 (ref34_Other_K d) y0).eval fun y1 =>
  bif y1.1 then ((ref34_Other_r2 (ref34_Other_K d) y1).eval fun y2 =>
  some y2) else ((ref34_Other_r3 (ref34_Other_K d) y1).eval fun y3 =>
  some y3)
theorem ref34_Other_cok (d : Nat) : COK prog (ref34_Other_sp (F_ref34_Other d)) := by
  have hm : prog.follows .mixedOrders = true := mixed
  have hT := tys
  have hC0 : OrcOK prog (orc (ref34_Other_tab (ref34_Other_K d))) := orc_ok (by
    intro S hS
    simp only [ref34_Other_tab, List.mem_cons, List.not_mem_nil, or_false] at hS
    all_goals first | cases hS | exact hS.elim)
  have hC : OrcOK prog (orc (ref34_Other_tab (ref34_Other_K d))) := hC0
  refine cok_of (c := bodyOf f48) (fn := f48) hT (by kernel_rfl) (by kernel_rfl) (by decide) fun x r h w0 φ0 Q hend => ?_
  replace h : F_ref34_Other d x = some r := h
  unfold F_ref34_Other at h
  show Run prog w0 φ0 13 (bodyOf f48) ⟨[(0, .agg [.int .i64 x.1.1, .int .i64 x.1.2.1, .int .i64 x.1.2.2.1, .int .i64 x.1.2.2.2.1]), (1, .int .i64 x.2.1.1)], []⟩ Q
  refine run_seq ?_
  refine run_reg hm hT hC (ref34_Other_g0 (ref34_Other_K d) (x.1.1, x.1.2.1, x.1.2.2.1, x.1.2.2.2.1, x.2.1.1)) h ?_
  intro y0 h
  refine cn_then ?_
  refine run_seq ?_
  refine run_seq ?_
  refine run_reg hm hT hC (ref34_Other_g1 (ref34_Other_K d) y0) h ?_
  intro y1 h
  refine cn_then ?_
  refine run_cond (v := y1.1) (by kernel_rfl) h ?_ ?_
  ·
    intro h
    refine run_seq ?_
    refine run_reg hm hT hC (ref34_Other_g2 (ref34_Other_K d) y1) h ?_
    intro y2 h
    refine cn_then ?_
    refine run_ret ?_
    refine cn_then_ret ?_
    cases h
    exact (hend _ (by kernel_rfl)).2
  ·
    intro h
    refine run_skip ?_
    refine cn_then ?_
    refine run_seq ?_
    refine run_reg hm hT hC (ref34_Other_g3 (ref34_Other_K d) y1) h ?_
    intro y3 h
    refine cn_then ?_
    refine run_ret ?_
    cases h
    exact (hend _ (by kernel_rfl)).2
abbrev ref34_behind_ps : List Pk := [.row RLiiiE true, .row Ri false, .row Rii true]
abbrev ref34_behind_X : Type := DLiiiE × Di × Dii × Unit
abbrev ref34_behind_R : Type := List Diiii
def ref34_behind_enc (r : ref34_behind_R) : LV × List Ob := (.rs 0, [.rows Riiii r])
def ref34_behind_sp (F : ref34_behind_X → Option ref34_behind_R) : Go.Tx.Spec := ⟨70, ref34_behind_ps, ref34_behind_R, F, ref34_behind_enc⟩
abbrev ref34_behind_C : Type := (ref01_Compare_X → Option ref01_Compare_R) × (ref34_Other_X → Option ref34_Other_R) × (ref04_Pairs_X → Option ref04_Pairs_R) × Unit
def ref34_behind_K (d : Nat) : ref34_behind_C := (F_ref01_Compare d, F_ref34_Other d, F_ref04_Pairs d, ())
def ref34_behind_tab (C : ref34_behind_C) : List Go.Tx.Spec := [ref01_Compare_sp C.1, ref34_Other_sp C.2.1, ref04_Pairs_sp C.2.2.1]
abbrev ref34_behind_Y0i : Type := List Diii × Int × Int × Int
def ref34_behind_S0i (v : ref34_behind_Y0i) : St := ⟨[(0, .agg [.fz Riii v.1]), (1, .int .i64 v.2.1), (2, .agg [.int .i64 v.2.2.1, .int .i64 v.2.2.2])], []⟩
abbrev ref34_behind_Y0 : Type := Int × List Diii × Int × Int
def ref34_behind_S0 (v : ref34_behind_Y0) : St := ⟨[(1, .int .i64 v.1), (3, .ptr 0 0), (5, .ptr 1 0)], [.cells [.fz Riii v.2.1], .cells [.int .i64 v.2.2.1, .int .i64 v.2.2.2]]⟩
def ref34_behind_r0 (C : ref34_behind_C) (v : ref34_behind_Y0i) : Dt ref34_behind_Y0 := (Dt.ret (v.2.1, v.1, v.2.2.1, v.2.2.2))
theorem ref34_behind_g0 (C : ref34_behind_C) (v : ref34_behind_Y0i) : treg tysT (orc (ref34_behind_tab C)) 111 (regO (bodyOf f70) 0) false [(1, .any), (3, (.box [.val Riii])), (5, .any)] (ref34_behind_S0i v) some = (ref34_behind_r0 C v).eval fun y => some (ref34_behind_S0 y) := by kernel_rfl
abbrev ref34_behind_Y1 : Type := Int × Int × Int × List Diiii
def ref34_behind_S1 (v : ref34_behind_Y1) : St := ⟨[(1, .int .i64 v.1), (5, .ptr 0 0), (7, .rs 1)], [.cells [.int .i64 v.2.1, .int .i64 v.2.2.1], .rows Riiii v.2.2.2]⟩
def ref34_behind_r1 (C : ref34_behind_C) (v : ref34_behind_Y0) : Dt ref34_behind_Y1 := (Dt.bnd (C.2.2.1 ((v.2.1, ()), ())) fun r1 => (Dt.ret (v.1, v.2.2.1, v.2.2.2, r1)))
theorem ref34_behind_g1 (C : ref34_behind_C) (v : ref34_behind_Y0) : treg tysT (orc (ref34_behind_tab C)) 111 (regO (bodyOf f70) 1) false [(1, .any), (5, .any), (7, (.own Riiii))] (ref34_behind_S0 v) some = (ref34_behind_r1 C v).eval fun y => some (ref34_behind_S1 y) := by kernel_rfl
abbrev ref34_behind_Y2 : Type := Int × Int × Int × List Diiii × List Diiii
def ref34_behind_S2 (v : ref34_behind_Y2) : St := ⟨[(1, .int .i64 v.1), (5, .ptr 0 0), (7, .rs 1), (8, .rs 2)], [.cells [.int .i64 v.2.1, .int .i64 v.2.2.1], .rows Riiii v.2.2.2.1, .rows Riiii v.2.2.2.2]⟩
def ref34_behind_r2 (C : ref34_behind_C) (v : ref34_behind_Y1) : Dt ref34_behind_Y2 := (Dt.ret (v.1, v.2.1, v.2.2.1, v.2.2.2, ([] : List Diiii)))
theorem ref34_behind_g2 (C : ref34_behind_C) (v : ref34_behind_Y1) : treg tysT (orc (ref34_behind_tab C)) 111 (regO (bodyOf f70) 2) false [(1, .any), (5, .any), (7, (.own Riiii)), (8, (.own Riiii))] (ref34_behind_S1 v) some = (ref34_behind_r2 C v).eval fun y => some (ref34_behind_S2 y) := by kernel_rfl
abbrev ref34_behind_Y3 : Type := Int × Int × Int × Int × List Diiii × List Diiii
def ref34_behind_S3 (v : ref34_behind_Y3) : St := ⟨[(1, .int .i64 v.1), (5, .ptr 0 0), (7, .rs 1), (8, .rs 2), (9, .int .i64 v.2.1)], [.cells [.int .i64 v.2.2.1, .int .i64 v.2.2.2.1], .rows Riiii v.2.2.2.2.1, .rows Riiii v.2.2.2.2.2]⟩
def ref34_behind_r3 (C : ref34_behind_C) (v : ref34_behind_Y2) : Dt ref34_behind_Y3 := (Dt.ret (v.1, (0:Int), v.2.1, v.2.2.1, v.2.2.2.1, v.2.2.2.2))
theorem ref34_behind_g3 (C : ref34_behind_C) (v : ref34_behind_Y2) : treg tysT (orc (ref34_behind_tab C)) 111 (regO (bodyOf f70) 3) false [(1, .any), (5, .any), (7, (.own Riiii)), (8, (.own Riiii)), (9, .any)] (ref34_behind_S2 v) some = (ref34_behind_r3 C v).eval fun y => some (ref34_behind_S3 y) := by kernel_rfl
abbrev ref34_behind_Y4 : Type := Int × Int × Bool × Int × Int × List Diiii × List Diiii
def ref34_behind_S4 (v : ref34_behind_Y4) : St := ⟨[(1, .int .i64 v.1), (5, .ptr 0 0), (7, .rs 1), (8, .rs 2), (9, .int .i64 v.2.1), (17, .bool v.2.2.1)], [.cells [.int .i64 v.2.2.2.1, .int .i64 v.2.2.2.2.1], .rows Riiii v.2.2.2.2.2.1, .rows Riiii v.2.2.2.2.2.2]⟩
def ref34_behind_r4 (C : ref34_behind_C) (v : ref34_behind_Y3) : Dt ref34_behind_Y4 := (Dt.ret (v.1, v.2.1, (decide (v.2.1 < (List.length v.2.2.2.2.1 : Int))), v.2.2.1, v.2.2.2.1, v.2.2.2.2.1, v.2.2.2.2.2))
theorem ref34_behind_g4 (C : ref34_behind_C) (v : ref34_behind_Y3) : treg tysT (orc (ref34_behind_tab C)) 111 (regO (bodyOf f70) 4) false [(1, .any), (5, .any), (7, (.own Riiii)), (8, (.own Riiii)), (9, .any), (17, .any)] (ref34_behind_S3 v) some = (ref34_behind_r4 C v).eval fun y => some (ref34_behind_S4 y) := by kernel_rfl
abbrev ref34_behind_Y6 : Type := Int × Int × Bool × Int × Int × List Diiii × List Diiii
def ref34_behind_S6 (v : ref34_behind_Y6) : St := ⟨[(1, .int .i64 v.1), (5, .ptr 0 0), (7, .rs 1), (8, .rs 2), (9, .int .i64 v.2.1), (45, .bool v.2.2.1)], [.cells [.int .i64 v.2.2.2.1, .int .i64 v.2.2.2.2.1], .rows Riiii v.2.2.2.2.2.1, .rows Riiii v.2.2.2.2.2.2]⟩
def ref34_behind_r6 (C : ref34_behind_C) (v : ref34_behind_Y4) : Dt ref34_behind_Y6 := (Dt.ite (inB v.2.1 (List.length v.2.2.2.2.2.1)) (Dt.ite ((elt ziiii v.2.2.2.2.2.1 (v.2.1).toNat).2.2.1 == v.1) (Dt.ite (inB v.2.1 (List.length v.2.2.2.2.2.1)) (Dt.bnd (C.1 (((elt ziiii v.2.2.2.2.2.1 (v.2.1).toNat).1, (elt ziiii v.2.2.2.2.2.1 (v.2.1).toNat).2.1, ()), (v.2.2.2.1, v.2.2.2.2.1, ()), ())) fun r1 => (Dt.ret (v.1, v.2.1, (decide (r1 > (0:Int))), v.2.2.2.1, v.2.2.2.2.1, v.2.2.2.2.2.1, v.2.2.2.2.2.2))) Dt.fail) (Dt.ite (inB v.2.1 (List.length v.2.2.2.2.2.1)) (Dt.ite ((elt ziiii v.2.2.2.2.2.1 (v.2.1).toNat).2.2.2.1 == v.1) (Dt.ite (inB v.2.1 (List.length v.2.2.2.2.2.1)) (Dt.bnd (C.1 (((elt ziiii v.2.2.2.2.2.1 (v.2.1).toNat).1, (elt ziiii v.2.2.2.2.2.1 (v.2.1).toNat).2.1, ()), (v.2.2.2.1, v.2.2.2.2.1, ()), ())) fun r2 => (Dt.ret (v.1, v.2.1, (decide (r2 > (0:Int))), v.2.2.2.1, v.2.2.2.2.1, v.2.2.2.2.2.1, v.2.2.2.2.2.2))) Dt.fail) (Dt.ret (v.1, v.2.1, false, v.2.2.2.1, v.2.2.2.2.1, v.2.2.2.2.2.1, v.2.2.2.2.2.2))) Dt.fail)) Dt.fail)
theorem ref34_behind_g6 (C : ref34_behind_C) (v : ref34_behind_Y4) : treg tysT (orc (ref34_behind_tab C)) 111 (regO (bodyOf f70) 6) true [(1, .any), (5, .any), (7, (.own Riiii)), (8, (.own Riiii)), (9, .any), (45, .any)] (ref34_behind_S4 v) some = (ref34_behind_r6 C v).eval fun y => some (ref34_behind_S6 y) := by kernel_rfl
def ref34_behind_r7 (C : ref34_behind_C) (v : ref34_behind_Y6) : Dt ref34_behind_Y3 := (Dt.ite (inB v.2.1 (List.length v.2.2.2.2.2.1)) (Dt.ite (apB (List.length v.2.2.2.2.2.2) (List.length ([((elt ziiii v.2.2.2.2.2.1 (v.2.1).toNat).1, (elt ziiii v.2.2.2.2.2.1 (v.2.1).toNat).2.1, (elt ziiii v.2.2.2.2.2.1 (v.2.1).toNat).2.2.1, (elt ziiii v.2.2.2.2.2.1 (v.2.1).toNat).2.2.2.1, ())] : List Diiii))) (Dt.ret (v.1, v.2.1, v.2.2.2.1, v.2.2.2.2.1, v.2.2.2.2.2.1, (v.2.2.2.2.2.2 ++ ([((elt ziiii v.2.2.2.2.2.1 (v.2.1).toNat).1, (elt ziiii v.2.2.2.2.2.1 (v.2.1).toNat).2.1, (elt ziiii v.2.2.2.2.2.1 (v.2.1).toNat).2.2.1, (elt ziiii v.2.2.2.2.2.1 (v.2.1).toNat).2.2.2.1, ())] : List Diiii)))) Dt.fail) Dt.fail)
theorem ref34_behind_g7 (C : ref34_behind_C) (v : ref34_behind_Y6) : treg tysT (orc (ref34_behind_tab C)) 111 (regO (bodyOf f70) 7) false [(1, .any), (5, .any), (7, (.own Riiii)), (8, (.own Riiii)), (9, .any)] (ref34_behind_S6 v) some = (ref34_behind_r7 C v).eval fun y => some (ref34_behind_S3 y) := by kernel_rfl
def ref34_behind_r5 (C : ref34_behind_C) (v : ref34_behind_Y3) : Dt ref34_behind_Y3 := (Dt.ret (v.1, (IntKind.wrap .i64 (v.2.1 + (1:Int))), v.2.2.1, v.2.2.2.1, v.2.2.2.2.1, v.2.2.2.2.2))
theorem ref34_behind_g5 (C : ref34_behind_C) (v : ref34_behind_Y3) : treg tysT (orc (ref34_behind_tab C)) 111 (regO (bodyOf f70) 5) false [(1, .any), (5, .any), (7, (.own Riiii)), (8, (.own Riiii)), (9, .any)] (ref34_behind_S3 v) some = (ref34_behind_r5 C v).eval fun y => some (ref34_behind_S3 y) := by kernel_rfl
def ref34_behind_J2  (d : Nat) (self1 : (Int × Int × Int × Int × List Diiii × List Diiii) → Option ref34_behind_R) (z : Int × Int × Int × Int × List Diiii × List Diiii) : Option (ref34_behind_R) :=
  (ref34_behind_r5 (ref34_behind_K d) z).eval fun y5 =>
  self1 y5
abbrev ref34_behind_Y8 : Type := Int × Int × List Diiii
def ref34_behind_S8 (v : ref34_behind_Y8) : St := ⟨[(1, .int .i64 v.1), (8, .rs 0), (10, .int .i64 v.2.1)], [.rows Riiii v.2.2]⟩
def ref34_behind_r8 (C : ref34_behind_C) (v : ref34_behind_Y4) : Dt ref34_behind_Y8 := (Dt.ret (v.1, (1:Int), v.2.2.2.2.2.2))
theorem ref34_behind_g8 (C : ref34_behind_C) (v : ref34_behind_Y4) : treg tysT (orc (ref34_behind_tab C)) 111 (regO (bodyOf f70) 8) false [(1, .any), (8, (.own Riiii)), (10, .any)] (ref34_behind_S4 v) some = (ref34_behind_r8 C v).eval fun y => some (ref34_behind_S8 y) := by kernel_rfl
abbrev ref34_behind_Y9 : Type := Int × Int × Bool × List Diiii
def ref34_behind_S9 (v : ref34_behind_Y9) : St := ⟨[(1, .int .i64 v.1), (8, .rs 0), (10, .int .i64 v.2.1), (56, .bool v.2.2.1)], [.rows Riiii v.2.2.2]⟩
def ref34_behind_r9 (C : ref34_behind_C) (v : ref34_behind_Y8) : Dt ref34_behind_Y9 := (Dt.ret (v.1, v.2.1, (decide (v.2.1 < (List.length v.2.2 : Int))), v.2.2))
theorem ref34_behind_g9 (C : ref34_behind_C) (v : ref34_behind_Y8) : treg tysT (orc (ref34_behind_tab C)) 111 (regO (bodyOf f70) 9) false [(1, .any), (8, (.own Riiii)), (10, .any), (56, .any)] (ref34_behind_S8 v) some = (ref34_behind_r9 C v).eval fun y => some (ref34_behind_S9 y) := by kernel_rfl
abbrev ref34_behind_Y11 : Type := Int × Int × Int × List Diiii
def ref34_behind_S11 (v : ref34_behind_Y11) : St := ⟨[(1, .int .i64 v.1), (8, .rs 0), (10, .int .i64 v.2.1), (11, .int .i64 v.2.2.1)], [.rows Riiii v.2.2.2]⟩
def ref34_behind_r11 (C : ref34_behind_C) (v : ref34_behind_Y9) : Dt ref34_behind_Y11 := (Dt.ret (v.1, v.2.1, v.2.1, v.2.2.2))
theorem ref34_behind_g11 (C : ref34_behind_C) (v : ref34_behind_Y9) : treg tysT (orc (ref34_behind_tab C)) 111 (regO (bodyOf f70) 11) false [(1, .any), (8, (.own Riiii)), (10, .any), (11, .any)] (ref34_behind_S9 v) some = (ref34_behind_r11 C v).eval fun y => some (ref34_behind_S11 y) := by kernel_rfl
abbrev ref34_behind_Y12 : Type := Int × Int × Int × Bool × List Diiii
def ref34_behind_S12 (v : ref34_behind_Y12) : St := ⟨[(1, .int .i64 v.1), (8, .rs 0), (10, .int .i64 v.2.1), (11, .int .i64 v.2.2.1), (91, .bool v.2.2.2.1)], [.rows Riiii v.2.2.2.2]⟩
def ref34_behind_r12 (C : ref34_behind_C) (v : ref34_behind_Y11) : Dt ref34_behind_Y12 := (Dt.ite (decide (v.2.2.1 > (0:Int))) (Dt.ite (inB v.2.2.1 (List.length v.2.2.2)) (Dt.ite (inB (IntKind.wrap .i64 (v.2.2.1 - (1:Int))) (List.length v.2.2.2)) (Dt.ite (((elt ziiii v.2.2.2 (v.2.2.1).toNat).1 == (elt ziiii v.2.2.2 ((IntKind.wrap .i64 (v.2.2.1 - (1:Int)))).toNat).1) && (((elt ziiii v.2.2.2 (v.2.2.1).toNat).2.1 == (elt ziiii v.2.2.2 ((IntKind.wrap .i64 (v.2.2.1 - (1:Int)))).toNat).2.1) && true)) (Dt.ite (inB v.2.2.1 (List.length v.2.2.2)) (Dt.bnd (C.2.1 (((elt ziiii v.2.2.2 (v.2.2.1).toNat).1, (elt ziiii v.2.2.2 (v.2.2.1).toNat).2.1, (elt ziiii v.2.2.2 (v.2.2.1).toNat).2.2.1, (elt ziiii v.2.2.2 (v.2.2.1).toNat).2.2.2.1, ()), (v.1, ()), ())) fun r1 => (Dt.ite (inB (IntKind.wrap .i64 (v.2.2.1 - (1:Int))) (List.length v.2.2.2)) (Dt.bnd (C.2.1 (((elt ziiii v.2.2.2 ((IntKind.wrap .i64 (v.2.2.1 - (1:Int)))).toNat).1, (elt ziiii v.2.2.2 ((IntKind.wrap .i64 (v.2.2.1 - (1:Int)))).toNat).2.1, (elt ziiii v.2.2.2 ((IntKind.wrap .i64 (v.2.2.1 - (1:Int)))).toNat).2.2.1, (elt ziiii v.2.2.2 ((IntKind.wrap .i64 (v.2.2.1 - (1:Int)))).toNat).2.2.2.1, ()), (v.1, ()), ())) fun r2 => (Dt.ret (v.1, v.2.1, v.2.2.1, (decide (r1 < r2)), v.2.2.2))) Dt.fail)) Dt.fail) (Dt.ret (v.1, v.2.1, v.2.2.1, false, v.2.2.2))) Dt.fail) Dt.fail) (Dt.ret (v.1, v.2.1, v.2.2.1, false, v.2.2.2)))
theorem ref34_behind_g12 (C : ref34_behind_C) (v : ref34_behind_Y11) : treg tysT (orc (ref34_behind_tab C)) 111 (regO (bodyOf f70) 12) true [(1, .any), (8, (.own Riiii)), (10, .any), (11, .any), (91, .any)] (ref34_behind_S11 v) some = (ref34_behind_r12 C v).eval fun y => some (ref34_behind_S12 y) := by kernel_rfl
def ref34_behind_r14 (C : ref34_behind_C) (v : ref34_behind_Y12) : Dt ref34_behind_Y11 := (Dt.ite (inB (IntKind.wrap .i64 (v.2.2.1 - (1:Int))) (List.length v.2.2.2.2)) (Dt.ite (inB v.2.2.1 (List.length v.2.2.2.2)) (Dt.ite (inB v.2.2.1 (List.length v.2.2.2.2)) (Dt.ite (inB (IntKind.wrap .i64 (v.2.2.1 - (1:Int))) (List.length (List.set v.2.2.2.2 (v.2.2.1).toNat ((elt ziiii v.2.2.2.2 ((IntKind.wrap .i64 (v.2.2.1 - (1:Int)))).toNat).1, (elt ziiii v.2.2.2.2 ((IntKind.wrap .i64 (v.2.2.1 - (1:Int)))).toNat).2.1, (elt ziiii v.2.2.2.2 ((IntKind.wrap .i64 (v.2.2.1 - (1:Int)))).toNat).2.2.1, (elt ziiii v.2.2.2.2 ((IntKind.wrap .i64 (v.2.2.1 - (1:Int)))).toNat).2.2.2.1, ())))) (Dt.ret (v.1, v.2.1, v.2.2.1, (List.set (List.set v.2.2.2.2 (v.2.2.1).toNat ((elt ziiii v.2.2.2.2 ((IntKind.wrap .i64 (v.2.2.1 - (1:Int)))).toNat).1, (elt ziiii v.2.2.2.2 ((IntKind.wrap .i64 (v.2.2.1 - (1:Int)))).toNat).2.1, (elt ziiii v.2.2.2.2 ((IntKind.wrap .i64 (v.2.2.1 - (1:Int)))).toNat).2.2.1, (elt ziiii v.2.2.2.2 ((IntKind.wrap .i64 (v.2.2.1 - (1:Int)))).toNat).2.2.2.1, ())) ((IntKind.wrap .i64 (v.2.2.1 - (1:Int)))).toNat ((elt ziiii v.2.2.2.2 (v.2.2.1).toNat).1, (elt ziiii v.2.2.2.2 (v.2.2.1).toNat).2.1, (elt ziiii v.2.2.2.2 (v.2.2.1).toNat).2.2.1, (elt ziiii v.2.2.2.2 (v.2.2.1).toNat).2.2.2.1, ())))) Dt.fail) Dt.fail) Dt.fail) Dt.fail)
theorem ref34_behind_g14 (C : ref34_behind_C) (v : ref34_behind_Y12) : treg tysT (orc (ref34_behind_tab C)) 111 (regO (bodyOf f70) 14) true [(1, .any), (8, (.own Riiii)), (10, .any), (11, .any)] (ref34_behind_S12 v) some = (ref34_behind_r14 C v).eval fun y => some (ref34_behind_S11 y) := by kernel_rfl
def ref34_behind_r13 (C : ref34_behind_C) (v : ref34_behind_Y11) : Dt ref34_behind_Y11 := (Dt.ret (v.1, v.2.1, (IntKind.wrap .i64 (v.2.2.1 - (1:Int))), v.2.2.2))
theorem ref34_behind_g13 (C : ref34_behind_C) (v : ref34_behind_Y11) : treg tysT (orc (ref34_behind_tab C)) 111 (regO (bodyOf f70) 13) false [(1, .any), (8, (.own Riiii)), (10, .any), (11, .any)] (ref34_behind_S11 v) some = (ref34_behind_r13 C v).eval fun y => some (ref34_behind_S11 y) := by kernel_rfl
def ref34_behind_r10 (C : ref34_behind_C) (v : ref34_behind_Y12) : Dt ref34_behind_Y8 := (Dt.ret (v.1, (IntKind.wrap .i64 (v.2.1 + (1:Int))), v.2.2.2.2))
theorem ref34_behind_g10 (C : ref34_behind_C) (v : ref34_behind_Y12) : treg tysT (orc (ref34_behind_tab C)) 111 (regO (bodyOf f70) 10) false [(1, .any), (8, (.own Riiii)), (10, .any)] (ref34_behind_S12 v) some = (ref34_behind_r10 C v).eval fun y => some (ref34_behind_S8 y) := by kernel_rfl
def ref34_behind_L4 (d : Nat) (self3 : (Int × Int × List Diiii) → Option ref34_behind_R) (self4 : (Int × Int × Int × List Diiii) → Option ref34_behind_R) (x4 : Int × Int × Int × List Diiii) : Option ref34_behind_R :=
  (ref34_behind_r12 (ref34_behind_K d) x4).eval fun y12 =>
  bif y12.2.2.2.1 then ((ref34_behind_r14 (ref34_behind_K d) y12).eval fun y14 =>
  (ref34_behind_r13 (ref34_behind_K d) y14).eval fun y13 =>
  self4 y13) else ((ref34_behind_r10 (ref34_behind_K d) y12).eval fun y10 =>
  self3 y10)
abbrev ref34_behind_Y15 : Type := List Diiii
def ref34_behind_S15 (v : ref34_behind_Y15) : St := ⟨[(6, .rs 0)], [.rows Riiii v]⟩
def ref34_behind_r15 (C : ref34_behind_C) (v : ref34_behind_Y9) : Dt ref34_behind_Y15 := (Dt.ret v.2.2.2)
theorem ref34_behind_g15 (C : ref34_behind_C) (v : ref34_behind_Y9) : treg tysT (orc (ref34_behind_tab C)) 111 (regO (bodyOf f70) 15) false [(6, (.own Riiii))] (ref34_behind_S9 v) some = (ref34_behind_r15 C v).eval fun y => some (ref34_behind_S15 y) := by kernel_rfl
def ref34_behind_L3 (d : Nat) (self3 : (Int × Int × List Diiii) → Option ref34_behind_R) (x3 : Int × Int × List Diiii) : Option ref34_behind_R :=
  (ref34_behind_r9 (ref34_behind_K d) x3).eval fun y9 =>
  bif y9.2.2.1 then ((ref34_behind_r11 (ref34_behind_K d) y9).eval fun y11 =>
  iter (ref34_behind_L4 d self3) d y11) else ((ref34_behind_r15 (ref34_behind_K d) y9).eval fun y15 =>
  some y15)
def ref34_behind_L1 (d : Nat) (self1 : (Int × Int × Int × Int × List Diiii × List Diiii) → Option ref34_behind_R) (x1 : Int × Int × Int × Int × List Diiii × List Diiii) : Option ref34_behind_R :=
  (ref34_behind_r4 (ref34_behind_K d) x1).eval fun y4 =>
  bif y4.2.2.1 then ((ref34_behind_r6 (ref34_behind_K d) y4).eval fun y6 =>
  bif y6.2.2.1 then ((ref34_behind_r7 (ref34_behind_K d) y6).eval fun y7 =>
  ref34_behind_J2 d self1 y7) else (ref34_behind_J2 d self1 (y6.1, y6.2.1, y6.2.2.2.1, y6.2.2.2.2.1, y6.2.2.2.2.2.1, y6.2.2.2.2.2.2))) else ((ref34_behind_r8 (ref34_behind_K d) y4).eval fun y8 =>
  iter (ref34_behind_L3 d ) d y8)
def F_ref34_behind (d : Nat) (x : ref34_behind_X) : Option ref34_behind_R :=
  (ref34_behind_r0 (ref34_behind_K d) (x.1.1, x.2.1.1, x.2.2.1.1, x.2.2.1.2.1)).eval fun y0 =>
  (ref34_behind_r1 (ref34_behind_K d) y0).eval fun y1 =>
  (ref34_behind_r2 (ref34_behind_K d) y1).eval fun y2 =>
  (ref34_behind_r3 (ref34_behind_K d) y2).eval fun y3 =>
  iter (ref34_behind_L1 d ) d y3
theorem ref34_behind_cok (d : Nat) : COK prog (ref34_behind_sp (F_ref34_behind d)) := by
  have hm : prog.follows .mixedOrders = true := mixed
  have hT := tys
  have hC0 : OrcOK prog (orc (ref34_behind_tab (ref34_behind_K d))) := orc_ok (by
    intro S hS
    simp only [ref34_behind_tab, List.mem_cons, List.not_mem_nil, or_false] at hS
    rcases hS with rfl | rfl | rfl
    · exact ref01_Compare_cok d
    · exact ref34_Other_cok d
    · exact ref04_Pairs_cok d)
  have hC : OrcOK prog (orc (ref34_behind_tab (ref34_behind_K d))) := hC0
  refine cok_of (c := bodyOf f70) (fn := f70) hT (by kernel_rfl) (by kernel_rfl) (by decide) fun x r h w0 φ0 Q hend => ?_
  replace h : F_ref34_behind d x = some r := h
  unfold F_ref34_behind at h
  show Run prog w0 φ0 111 (bodyOf f70) ⟨[(0, .agg [.fz Riii x.1.1]), (1, .int .i64 x.2.1.1), (2, .agg [.int .i64 x.2.2.1.1, .int .i64 x.2.2.1.2.1])], []⟩ Q
  refine run_seq ?_
  refine run_reg hm hT hC (ref34_behind_g0 (ref34_behind_K d) (x.1.1, x.2.1.1, x.2.2.1.1, x.2.2.1.2.1)) h ?_
  intro y0 h
  refine cn_then ?_
  refine run_seq ?_
  refine run_reg hm hT hC (ref34_behind_g1 (ref34_behind_K d) y0) h ?_
  intro y1 h
  refine cn_then ?_
  refine run_seq ?_
  refine run_reg hm hT hC (ref34_behind_g2 (ref34_behind_K d) y1) h ?_
  intro y2 h
  refine cn_then ?_
  refine run_seq ?_
  refine run_seq ?_
  refine run_reg hm hT hC (ref34_behind_g3 (ref34_behind_K d) y2) h ?_
  intro y3 h
  refine cn_then ?_
  refine run_block ?_
  refine run_loop (G := iter (ref34_behind_L1 d )) (S := (fun x1 => ⟨[(1, .int .i64 x1.1), (5, .ptr 0 0), (7, .rs 1), (8, .rs 2), (9, .int .i64 x1.2.1)], [.cells [.int .i64 x1.2.2.1, .int .i64 x1.2.2.2.1], .rows Riiii x1.2.2.2.2.1, .rows Riiii x1.2.2.2.2.2]⟩ : Int × Int × Int × Int × List Diiii × List Diiii → St)) (fun _ => rfl) ?_ d _ h
  intro n1 x1 h K1 hn1
  replace h : ref34_behind_L1 d  (iter (ref34_behind_L1 d ) n1) x1 = some r := h
  generalize iter (ref34_behind_L1 d ) n1 = self1 at h hn1
  unfold ref34_behind_L1 at h
  refine run_seq ?_
  refine run_seq ?_
  refine run_reg hm hT hC (ref34_behind_g4 (ref34_behind_K d) x1) h ?_
  intro y4 h
  refine cn_then ?_
  refine run_cond (v := y4.2.2.1) (by kernel_rfl) h ?_ ?_
  ·
    intro h
    refine run_skip ?_
    refine cn_then ?_
    refine run_join (r := r) (F := ref34_behind_J2 d self1) (S := (fun z => ⟨[(1, .int .i64 z.1), (5, .ptr 0 0), (7, .rs 1), (8, .rs 2), (9, .int .i64 z.2.1)], [.cells [.int .i64 z.2.2.1, .int .i64 z.2.2.2.1], .rows Riiii z.2.2.2.2.1, .rows Riiii z.2.2.2.2.2]⟩ : Int × Int × Int × Int × List Diiii × List Diiii → St)) ?_ ?_
    ·
      intro z h
      unfold ref34_behind_J2 at h
      refine run_reg hm hT hC (ref34_behind_g5 (ref34_behind_K d) z) h ?_
      intro y5 h
      exact hn1 _ h
    intro hj2
    refine run_block ?_
    refine run_seq ?_
    refine run_reg hm hT hC (ref34_behind_g6 (ref34_behind_K d) y4) h ?_
    intro y6 h
    refine cn_then ?_
    refine run_cond (v := y6.2.2.1) (by kernel_rfl) h ?_ ?_
    ·
      intro h
      refine run_reg hm hT hC (ref34_behind_g7 (ref34_behind_K d) y6) h ?_
      intro y7 h
      refine cn_blk ?_
      exact hj2 _ h
    ·
      intro h
      refine run_skip ?_
      refine cn_blk ?_
      refine cn_num (s := ⟨[(1, .int .i64 y6.1), (5, .ptr 0 0), (7, .rs 1), (8, .rs 2), (9, .int .i64 y6.2.1)], [.cells [.int .i64 y6.2.2.2.1, .int .i64 y6.2.2.2.2.1], .rows Riiii y6.2.2.2.2.2.1, .rows Riiii y6.2.2.2.2.2.2]⟩) [45] (by kernel_rfl) ?_
      exact hj2 _ h
  ·
    intro h
    refine run_exit ?_
    refine cn_then_exit ?_
    refine cn_then_exit ?_
    refine cn_blk_eq ?_
    refine cn_then ?_
    refine run_seq ?_
    refine run_seq ?_
    refine run_reg hm hT hC (ref34_behind_g8 (ref34_behind_K d) y4) h ?_
    intro y8 h
    refine cn_then ?_
    refine run_block ?_
    refine run_loop (G := iter (ref34_behind_L3 d )) (S := (fun x3 => ⟨[(1, .int .i64 x3.1), (8, .rs 0), (10, .int .i64 x3.2.1)], [.rows Riiii x3.2.2]⟩ : Int × Int × List Diiii → St)) (fun _ => rfl) ?_ d _ h
    intro n3 x3 h K3 hn3
    replace h : ref34_behind_L3 d  (iter (ref34_behind_L3 d ) n3) x3 = some r := h
    generalize iter (ref34_behind_L3 d ) n3 = self3 at h hn3
    unfold ref34_behind_L3 at h
    refine run_seq ?_
    refine run_seq ?_
    refine run_reg hm hT hC (ref34_behind_g9 (ref34_behind_K d) x3) h ?_
    intro y9 h
    refine cn_then ?_
    refine run_cond (v := y9.2.2.1) (by kernel_rfl) h ?_ ?_
    ·
      intro h
      refine run_skip ?_
      refine cn_then ?_
      refine run_seq ?_
      refine run_block ?_
      refine run_seq ?_
      refine run_reg hm hT hC (ref34_behind_g11 (ref34_behind_K d) y9) h ?_
      intro y11 h
      refine cn_then ?_
      refine run_block ?_
      refine run_loop (G := iter (ref34_behind_L4 d self3)) (S := (fun x4 => ⟨[(1, .int .i64 x4.1), (8, .rs 0), (10, .int .i64 x4.2.1), (11, .int .i64 x4.2.2.1)], [.rows Riiii x4.2.2.2]⟩ : Int × Int × Int × List Diiii → St)) (fun _ => rfl) ?_ d _ h
      intro n4 x4 h K4 hn4
      replace h : ref34_behind_L4 d self3 (iter (ref34_behind_L4 d self3) n4) x4 = some r := h
      generalize iter (ref34_behind_L4 d self3) n4 = self4 at h hn4
      unfold ref34_behind_L4 at h
      refine run_seq ?_
      refine run_seq ?_
      refine run_reg hm hT hC (ref34_behind_g12 (ref34_behind_K d) x4) h ?_
      intro y12 h
      refine cn_then ?_
      refine run_cond (v := y12.2.2.2.1) (by kernel_rfl) h ?_ ?_
      ·
        intro h
        refine run_skip ?_
        refine cn_then ?_
        refine run_seq ?_
        refine run_block ?_
        refine run_reg hm hT hC (ref34_behind_g14 (ref34_behind_K d) y12) h ?_
        intro y14 h
        refine cn_blk ?_
        refine cn_then ?_
        refine run_reg hm hT hC (ref34_behind_g13 (ref34_behind_K d) y14) h ?_
        intro y13 h
        exact hn4 _ h
      ·
        intro h
        refine run_exit ?_
        refine cn_then_exit ?_
        refine cn_then_exit ?_
        refine cn_blk_eq ?_
        refine cn_blk ?_
        refine cn_then ?_
        refine run_reg hm hT hC (ref34_behind_g10 (ref34_behind_K d) y12) h ?_
        intro y10 h
        exact hn3 _ h
    ·
      intro h
      refine run_exit ?_
      refine cn_then_exit ?_
      refine cn_then_exit ?_
      refine cn_blk_eq ?_
      refine cn_then ?_
      refine run_seq ?_
      refine run_reg hm hT hC (ref34_behind_g15 (ref34_behind_K d) y9) h ?_
      intro y15 h
      refine cn_then ?_
      refine run_ret ?_
      cases h
      exact (hend _ (by kernel_rfl)).2
abbrev ref34_Next_ps : List Pk := [.row RLiiiE true, .row Ri false, .row Rii true]
abbrev ref34_Next_X : Type := DLiiiE × Di × Dii × Unit
abbrev ref34_Next_R : Type := Int × Int × Int × Int × Int
def ref34_Next_enc (r : ref34_Next_R) : LV × List Ob := (.tup [.agg [.int .i64 r.1, .int .i64 r.2.1, .int .i64 r.2.2.1, .int .i64 r.2.2.2.1], .int .i64 r.2.2.2.2], [])
def ref34_Next_sp (F : ref34_Next_X → Option ref34_Next_R) : Go.Tx.Spec := ⟨29, ref34_Next_ps, ref34_Next_R, F, ref34_Next_enc⟩
abbrev ref34_Next_C : Type := (ref03_At_X → Option ref03_At_R) × (ref03_Timed_X → Option ref03_Timed_R) × (ref34_behind_X → Option ref34_behind_R) × Unit
def ref34_Next_K (d : Nat) : ref34_Next_C := (F_ref03_At d, F_ref03_Timed d, F_ref34_behind d, ())
def ref34_Next_tab (C : ref34_Next_C) : List Go.Tx.Spec := [ref03_At_sp C.1, ref03_Timed_sp C.2.1, ref34_behind_sp C.2.2.1]
abbrev ref34_Next_Y0i : Type := List Diii × Int × Int × Int
def ref34_Next_S0i (v : ref34_Next_Y0i) : St := ⟨[(0, .agg [.fz Riii v.1]), (1, .int .i64 v.2.1), (2, .agg [.int .i64 v.2.2.1, .int .i64 v.2.2.2])], []⟩
abbrev ref34_Next_Y0 : Type := Int × List Diii × Int × Int × Int × Int × Int × Int
def ref34_Next_S0 (v : ref34_Next_Y0) : St := ⟨[(1, .int .i64 v.1), (3, .ptr 0 0), (5, .ptr 1 0), (6, .ptr 2 0)], [.cells [.fz Riii v.2.1], .cells [.int .i64 v.2.2.1, .int .i64 v.2.2.2.1], .cells [.int .i64 v.2.2.2.2.1, .int .i64 v.2.2.2.2.2.1, .int .i64 v.2.2.2.2.2.2.1, .int .i64 v.2.2.2.2.2.2.2]]⟩
def ref34_Next_r0 (C : ref34_Next_C) (v : ref34_Next_Y0i) : Dt ref34_Next_Y0 := (Dt.ret (v.2.1, v.1, v.2.2.1, v.2.2.2, (0:Int), (0:Int), (0:Int), (0:Int)))
theorem ref34_Next_g0 (C : ref34_Next_C) (v : ref34_Next_Y0i) : treg tysT (orc (ref34_Next_tab C)) 33 (regO (bodyOf f29) 0) false [(1, .any), (3, (.box [.val Riii])), (5, .any), (6, .any)] (ref34_Next_S0i v) some = (ref34_Next_r0 C v).eval fun y => some (ref34_Next_S0 y) := by kernel_rfl
abbrev ref34_Next_Y1 : Type := Int × Int × List Diii × Int × Int × Int × Int × Int × Int
def ref34_Next_S1 (v : ref34_Next_Y1) : St := ⟨[(1, .int .i64 v.1), (3, .ptr 0 0), (5, .ptr 1 0), (6, .ptr 2 0), (8, .int .i64 v.2.1)], [.cells [.fz Riii v.2.2.1], .cells [.int .i64 v.2.2.2.1, .int .i64 v.2.2.2.2.1], .cells [.int .i64 v.2.2.2.2.2.1, .int .i64 v.2.2.2.2.2.2.1, .int .i64 v.2.2.2.2.2.2.2.1, .int .i64 v.2.2.2.2.2.2.2.2]]⟩
def ref34_Next_r1 (C : ref34_Next_C) (v : ref34_Next_Y0) : Dt ref34_Next_Y1 := (Dt.bnd (C.2.1 ((v.2.1, ()), (v.2.2.1, v.2.2.2.1, ()), ())) fun r1 => (Dt.ret (v.1, r1, v.2.1, v.2.2.1, v.2.2.2.1, v.2.2.2.2.1, v.2.2.2.2.2.1, v.2.2.2.2.2.2.1, v.2.2.2.2.2.2.2)))
theorem ref34_Next_g1 (C : ref34_Next_C) (v : ref34_Next_Y0) : treg tysT (orc (ref34_Next_tab C)) 33 (regO (bodyOf f29) 1) false [(1, .any), (3, (.box [.val Riii])), (5, .any), (6, .any), (8, .any)] (ref34_Next_S0 v) some = (ref34_Next_r1 C v).eval fun y => some (ref34_Next_S1 y) := by kernel_rfl
abbrev ref34_Next_Y2 : Type := Int × Int × Bool × List Diii × Int × Int × Int × Int × Int × Int
def ref34_Next_S2 (v : ref34_Next_Y2) : St := ⟨[(1, .int .i64 v.1), (3, .ptr 0 0), (5, .ptr 1 0), (6, .ptr 2 0), (8, .int .i64 v.2.1), (14, .bool v.2.2.1)], [.cells [.fz Riii v.2.2.2.1], .cells [.int .i64 v.2.2.2.2.1, .int .i64 v.2.2.2.2.2.1], .cells [.int .i64 v.2.2.2.2.2.2.1, .int .i64 v.2.2.2.2.2.2.2.1, .int .i64 v.2.2.2.2.2.2.2.2.1, .int .i64 v.2.2.2.2.2.2.2.2.2]]⟩
def ref34_Next_r2 (C : ref34_Next_C) (v : ref34_Next_Y1) : Dt ref34_Next_Y2 := (Dt.ret (v.1, v.2.1, (v.2.1 != (0:Int)), v.2.2.1, v.2.2.2.1, v.2.2.2.2.1, v.2.2.2.2.2.1, v.2.2.2.2.2.2.1, v.2.2.2.2.2.2.2.1, v.2.2.2.2.2.2.2.2))
theorem ref34_Next_g2 (C : ref34_Next_C) (v : ref34_Next_Y1) : treg tysT (orc (ref34_Next_tab C)) 33 (regO (bodyOf f29) 2) false [(1, .any), (3, (.box [.val Riii])), (5, .any), (6, .any), (8, .any), (14, .any)] (ref34_Next_S1 v) some = (ref34_Next_r2 C v).eval fun y => some (ref34_Next_S2 y) := by kernel_rfl
abbrev ref34_Next_Y3 : Type := Int × Int × Int × Int × Int
def ref34_Next_S3 (v : ref34_Next_Y3) : St := ⟨[(6, .ptr 0 0), (7, .int .i64 v.1)], [.cells [.int .i64 v.2.1, .int .i64 v.2.2.1, .int .i64 v.2.2.2.1, .int .i64 v.2.2.2.2]]⟩
def ref34_Next_r3 (C : ref34_Next_C) (v : ref34_Next_Y2) : Dt ref34_Next_Y3 := (Dt.ret (v.2.1, (0:Int), (0:Int), (0:Int), (0:Int)))
theorem ref34_Next_g3 (C : ref34_Next_C) (v : ref34_Next_Y2) : treg tysT (orc (ref34_Next_tab C)) 33 (regO (bodyOf f29) 3) false [(6, .any), (7, .any)] (ref34_Next_S2 v) some = (ref34_Next_r3 C v).eval fun y => some (ref34_Next_S3 y) := by kernel_rfl
abbrev ref34_Next_Y4 : Type := Int × Bool × List Diii × Int × Int × Int × Int × Int × Int
def ref34_Next_S4 (v : ref34_Next_Y4) : St := ⟨[(1, .int .i64 v.1), (3, .ptr 0 0), (5, .ptr 1 0), (6, .ptr 2 0), (20, .bool v.2.1)], [.cells [.fz Riii v.2.2.1], .cells [.int .i64 v.2.2.2.1, .int .i64 v.2.2.2.2.1], .cells [.int .i64 v.2.2.2.2.2.1, .int .i64 v.2.2.2.2.2.2.1, .int .i64 v.2.2.2.2.2.2.2.1, .int .i64 v.2.2.2.2.2.2.2.2]]⟩
def ref34_Next_r4 (C : ref34_Next_C) (v : ref34_Next_Y2) : Dt ref34_Next_Y4 := (Dt.bnd (C.1 ((v.2.2.2.1, ()), (v.1, ()), ())) fun r1 => (Dt.ret (v.1, (decide (r1 < (0:Int))), v.2.2.2.1, v.2.2.2.2.1, v.2.2.2.2.2.1, v.2.2.2.2.2.2.1, v.2.2.2.2.2.2.2.1, v.2.2.2.2.2.2.2.2.1, v.2.2.2.2.2.2.2.2.2)))
theorem ref34_Next_g4 (C : ref34_Next_C) (v : ref34_Next_Y2) : treg tysT (orc (ref34_Next_tab C)) 33 (regO (bodyOf f29) 4) false [(1, .any), (3, (.box [.val Riii])), (5, .any), (6, .any), (20, .any)] (ref34_Next_S2 v) some = (ref34_Next_r4 C v).eval fun y => some (ref34_Next_S4 y) := by kernel_rfl
def ref34_Next_r5 (C : ref34_Next_C) (v : ref34_Next_Y4) : Dt ref34_Next_Y3 := (Dt.ret ((6:Int), (0:Int), (0:Int), (0:Int), (0:Int)))
theorem ref34_Next_g5 (C : ref34_Next_C) (v : ref34_Next_Y4) : treg tysT (orc (ref34_Next_tab C)) 33 (regO (bodyOf f29) 5) false [(6, .any), (7, .any)] (ref34_Next_S4 v) some = (ref34_Next_r5 C v).eval fun y => some (ref34_Next_S3 y) := by kernel_rfl
abbrev ref34_Next_Y6 : Type := Int × Int × Int × Int × List Diiii
def ref34_Next_S6 (v : ref34_Next_Y6) : St := ⟨[(6, .ptr 0 0), (9, .rs 1)], [.cells [.int .i64 v.1, .int .i64 v.2.1, .int .i64 v.2.2.1, .int .i64 v.2.2.2.1], .rows Riiii v.2.2.2.2]⟩
def ref34_Next_r6 (C : ref34_Next_C) (v : ref34_Next_Y4) : Dt ref34_Next_Y6 := (Dt.bnd (C.2.2.1 ((v.2.2.1, ()), (v.1, ()), (v.2.2.2.1, v.2.2.2.2.1, ()), ())) fun r1 => (Dt.ret (v.2.2.2.2.2.1, v.2.2.2.2.2.2.1, v.2.2.2.2.2.2.2.1, v.2.2.2.2.2.2.2.2, r1)))
theorem ref34_Next_g6 (C : ref34_Next_C) (v : ref34_Next_Y4) : treg tysT (orc (ref34_Next_tab C)) 33 (regO (bodyOf f29) 6) false [(6, .any), (9, (.own Riiii))] (ref34_Next_S4 v) some = (ref34_Next_r6 C v).eval fun y => some (ref34_Next_S6 y) := by kernel_rfl
abbrev ref34_Next_Y7 : Type := Bool × Int × Int × Int × Int × List Diiii
def ref34_Next_S7 (v : ref34_Next_Y7) : St := ⟨[(6, .ptr 0 0), (9, .rs 1), (28, .bool v.1)], [.cells [.int .i64 v.2.1, .int .i64 v.2.2.1, .int .i64 v.2.2.2.1, .int .i64 v.2.2.2.2.1], .rows Riiii v.2.2.2.2.2]⟩
def ref34_Next_r7 (C : ref34_Next_C) (v : ref34_Next_Y6) : Dt ref34_Next_Y7 := (Dt.ret (((List.length v.2.2.2.2 : Int) == (0:Int)), v.1, v.2.1, v.2.2.1, v.2.2.2.1, v.2.2.2.2))
theorem ref34_Next_g7 (C : ref34_Next_C) (v : ref34_Next_Y6) : treg tysT (orc (ref34_Next_tab C)) 33 (regO (bodyOf f29) 7) false [(6, .any), (9, (.own Riiii)), (28, .any)] (ref34_Next_S6 v) some = (ref34_Next_r7 C v).eval fun y => some (ref34_Next_S7 y) := by kernel_rfl
def ref34_Next_r8 (C : ref34_Next_C) (v : ref34_Next_Y7) : Dt ref34_Next_Y3 := (Dt.ret ((6:Int), (0:Int), (0:Int), (0:Int), (0:Int)))
theorem ref34_Next_g8 (C : ref34_Next_C) (v : ref34_Next_Y7) : treg tysT (orc (ref34_Next_tab C)) 33 (regO (bodyOf f29) 8) false [(6, .any), (7, .any)] (ref34_Next_S7 v) some = (ref34_Next_r8 C v).eval fun y => some (ref34_Next_S3 y) := by kernel_rfl
def ref34_Next_r9 (C : ref34_Next_C) (v : ref34_Next_Y7) : Dt ref34_Next_Y3 := (Dt.ite (inB (0:Int) (List.length v.2.2.2.2.2)) (Dt.ret ((0:Int), (elt ziiii v.2.2.2.2.2 ((0:Int)).toNat).1, (elt ziiii v.2.2.2.2.2 ((0:Int)).toNat).2.1, (elt ziiii v.2.2.2.2.2 ((0:Int)).toNat).2.2.1, (elt ziiii v.2.2.2.2.2 ((0:Int)).toNat).2.2.2.1)) Dt.fail)
theorem ref34_Next_g9 (C : ref34_Next_C) (v : ref34_Next_Y7) : treg tysT (orc (ref34_Next_tab C)) 33 (regO (bodyOf f29) 9) false [(6, .any), (7, .any)] (ref34_Next_S7 v) some = (ref34_Next_r9 C v).eval fun y => some (ref34_Next_S3 y) := by kernel_rfl
def F_ref34_Next (d : Nat) (x : ref34_Next_X) : Option ref34_Next_R :=
  (ref34_Next_r0 (ref34_Next_K d) (x.1.1, x.2.1.1, x.2.2.1.1, x.2.2.1.2.1)).eval fun y0 =>
  (ref34_Next_r1 (ref34_Next_K d) y0).eval fun y1 =>
  (ref34_Next_r2 (ref34_Next_K d) y1).eval fun y2 =>
  bif y2.2.2.1 then ((ref34_Next_r3 (ref34_Next_K d) y2).eval fun y3 =>
  some (y3.2.1, y3.2.2.1, y3.2.2.2.1, y3.2.2.2.2, y3.1)) else ((ref34_Next_r4 (ref34_Next_K d) y2).eval fun y4 =>
  bif y4.2.1 then ((ref34_Next_r5 (ref34_Next_K d) y4).eval fun y5 =>
  some (y5.2.1, y5.2.2.1, y5.2.2.2.1, y5.2.2.2.2, y5.1)) else ((ref34_Next_r6 (ref34_Next_K d) y4).eval fun y6 =>
  (ref34_Next_r7 (ref34_Next_K d) y6).eval fun y7 =>
  bif y7.1 then ((ref34_Next_r8 (ref34_Next_K d) y7).eval fun y8 =>
  some (y8.2.1, y8.2.2.1, y8.2.2.2.1, y8.2.2.2.2, y8.1)) else ((ref34_Next_r9 (ref34_Next_K d) y7).eval fun y9 =>
  some (y9.2.1, y9.2.2.1, y9.2.2.2.1, y9.2.2.2.2, y9.1))))
theorem ref34_Next_cok (d : Nat) : COK prog (ref34_Next_sp (F_ref34_Next d)) := by
  have hm : prog.follows .mixedOrders = true := mixed
  have hT := tys
  have hC0 : OrcOK prog (orc (ref34_Next_tab (ref34_Next_K d))) := orc_ok (by
    intro S hS
    simp only [ref34_Next_tab, List.mem_cons, List.not_mem_nil, or_false] at hS
    rcases hS with rfl | rfl | rfl
    · exact ref03_At_cok d
    · exact ref03_Timed_cok d
    · exact ref34_behind_cok d)
  have hC : OrcOK prog (orc (ref34_Next_tab (ref34_Next_K d))) := hC0
  refine cok_of (c := bodyOf f29) (fn := f29) hT (by kernel_rfl) (by kernel_rfl) (by decide) fun x r h w0 φ0 Q hend => ?_
  replace h : F_ref34_Next d x = some r := h
  unfold F_ref34_Next at h
  show Run prog w0 φ0 33 (bodyOf f29) ⟨[(0, .agg [.fz Riii x.1.1]), (1, .int .i64 x.2.1.1), (2, .agg [.int .i64 x.2.2.1.1, .int .i64 x.2.2.1.2.1])], []⟩ Q
  refine run_seq ?_
  refine run_reg hm hT hC (ref34_Next_g0 (ref34_Next_K d) (x.1.1, x.2.1.1, x.2.2.1.1, x.2.2.1.2.1)) h ?_
  intro y0 h
  refine cn_then ?_
  refine run_seq ?_
  refine run_seq ?_
  refine run_reg hm hT hC (ref34_Next_g1 (ref34_Next_K d) y0) h ?_
  intro y1 h
  refine cn_then ?_
  refine run_seq ?_
  refine run_reg hm hT hC (ref34_Next_g2 (ref34_Next_K d) y1) h ?_
  intro y2 h
  refine cn_then ?_
  refine run_cond (v := y2.2.2.1) (by kernel_rfl) h ?_ ?_
  ·
    intro h
    refine run_seq ?_
    refine run_reg hm hT hC (ref34_Next_g3 (ref34_Next_K d) y2) h ?_
    intro y3 h
    refine cn_then ?_
    refine run_ret ?_
    refine cn_then_ret ?_
    cases h
    exact (hend _ (by kernel_rfl)).2
  ·
    intro h
    refine run_skip ?_
    refine cn_then ?_
    refine run_seq ?_
    refine run_seq ?_
    refine run_reg hm hT hC (ref34_Next_g4 (ref34_Next_K d) y2) h ?_
    intro y4 h
    refine cn_then ?_
    refine run_cond (v := y4.2.1) (by kernel_rfl) h ?_ ?_
    ·
      intro h
      refine run_seq ?_
      refine run_reg hm hT hC (ref34_Next_g5 (ref34_Next_K d) y4) h ?_
      intro y5 h
      refine cn_then ?_
      refine run_ret ?_
      refine cn_then_ret ?_
      cases h
      exact (hend _ (by kernel_rfl)).2
    ·
      intro h
      refine run_skip ?_
      refine cn_then ?_
      refine run_seq ?_
      refine run_reg hm hT hC (ref34_Next_g6 (ref34_Next_K d) y4) h ?_
      intro y6 h
      refine cn_then ?_
      refine run_seq ?_
      refine run_seq ?_
      refine run_reg hm hT hC (ref34_Next_g7 (ref34_Next_K d) y6) h ?_
      intro y7 h
      refine cn_then ?_
      refine run_cond (v := y7.1) (by kernel_rfl) h ?_ ?_
      ·
        intro h
        refine run_seq ?_
        refine run_reg hm hT hC (ref34_Next_g8 (ref34_Next_K d) y7) h ?_
        intro y8 h
        refine cn_then ?_
        refine run_ret ?_
        refine cn_then_ret ?_
        cases h
        exact (hend _ (by kernel_rfl)).2
      ·
        intro h
        refine run_skip ?_
        refine cn_then ?_
        refine run_seq ?_
        refine run_reg hm hT hC (ref34_Next_g9 (ref34_Next_K d) y7) h ?_
        intro y9 h
        refine cn_then ?_
        refine run_ret ?_
        cases h
        exact (hend _ (by kernel_rfl)).2
abbrev ref34_asked_ps : List Pk := [.row RLiiiE true, .row Ri false, .row Rii true, .row Ri false]
abbrev ref34_asked_X : Type := DLiiiE × Di × Dii × Di × Unit
abbrev ref34_asked_R : Type := Int
def ref34_asked_enc (r : ref34_asked_R) : LV × List Ob := (.int .i64 r, [])
def ref34_asked_sp (F : ref34_asked_X → Option ref34_asked_R) : Go.Tx.Spec := ⟨73, ref34_asked_ps, ref34_asked_R, F, ref34_asked_enc⟩
abbrev ref34_asked_C : Type := (ref03_At_X → Option ref03_At_R) × (ref03_Timed_X → Option ref03_Timed_R) × Unit
def ref34_asked_K (d : Nat) : ref34_asked_C := (F_ref03_At d, F_ref03_Timed d, ())
def ref34_asked_tab (C : ref34_asked_C) : List Go.Tx.Spec := [ref03_At_sp C.1, ref03_Timed_sp C.2.1]
abbrev ref34_asked_Y0i : Type := List Diii × Int × Int × Int × Int
def ref34_asked_S0i (v : ref34_asked_Y0i) : St := ⟨[(0, .agg [.fz Riii v.1]), (1, .int .i64 v.2.1), (2, .agg [.int .i64 v.2.2.1, .int .i64 v.2.2.2.1]), (3, .int .i64 v.2.2.2.2)], []⟩
abbrev ref34_asked_Y0 : Type := Int × Int × List Diii × Int × Int
def ref34_asked_S0 (v : ref34_asked_Y0) : St := ⟨[(1, .int .i64 v.1), (3, .int .i64 v.2.1), (4, .ptr 0 0), (6, .ptr 1 0)], [.cells [.fz Riii v.2.2.1], .cells [.int .i64 v.2.2.2.1, .int .i64 v.2.2.2.2]]⟩
def ref34_asked_r0 (C : ref34_asked_C) (v : ref34_asked_Y0i) : Dt ref34_asked_Y0 := (Dt.ret (v.2.1, v.2.2.2.2, v.1, v.2.2.1, v.2.2.2.1))
theorem ref34_asked_g0 (C : ref34_asked_C) (v : ref34_asked_Y0i) : treg tysT (orc (ref34_asked_tab C)) 26 (regO (bodyOf f73) 0) false [(1, .any), (3, .any), (4, (.box [.val Riii])), (6, .any)] (ref34_asked_S0i v) some = (ref34_asked_r0 C v).eval fun y => some (ref34_asked_S0 y) := by kernel_rfl
abbrev ref34_asked_Y1 : Type := Int × Int × Int × List Diii
def ref34_asked_S1 (v : ref34_asked_Y1) : St := ⟨[(1, .int .i64 v.1), (3, .int .i64 v.2.1), (4, .ptr 0 0), (9, .int .i64 v.2.2.1)], [.cells [.fz Riii v.2.2.2]]⟩
def ref34_asked_r1 (C : ref34_asked_C) (v : ref34_asked_Y0) : Dt ref34_asked_Y1 := (Dt.bnd (C.2.1 ((v.2.2.1, ()), (v.2.2.2.1, v.2.2.2.2, ()), ())) fun r1 => (Dt.ret (v.1, v.2.1, r1, v.2.2.1)))
theorem ref34_asked_g1 (C : ref34_asked_C) (v : ref34_asked_Y0) : treg tysT (orc (ref34_asked_tab C)) 26 (regO (bodyOf f73) 1) false [(1, .any), (3, .any), (4, (.box [.val Riii])), (9, .any)] (ref34_asked_S0 v) some = (ref34_asked_r1 C v).eval fun y => some (ref34_asked_S1 y) := by kernel_rfl
abbrev ref34_asked_Y2 : Type := Int × Int × Int × Bool × List Diii
def ref34_asked_S2 (v : ref34_asked_Y2) : St := ⟨[(1, .int .i64 v.1), (3, .int .i64 v.2.1), (4, .ptr 0 0), (9, .int .i64 v.2.2.1), (14, .bool v.2.2.2.1)], [.cells [.fz Riii v.2.2.2.2]]⟩
def ref34_asked_r2 (C : ref34_asked_C) (v : ref34_asked_Y1) : Dt ref34_asked_Y2 := (Dt.ret (v.1, v.2.1, v.2.2.1, (v.2.2.1 != (0:Int)), v.2.2.2))
theorem ref34_asked_g2 (C : ref34_asked_C) (v : ref34_asked_Y1) : treg tysT (orc (ref34_asked_tab C)) 26 (regO (bodyOf f73) 2) false [(1, .any), (3, .any), (4, (.box [.val Riii])), (9, .any), (14, .any)] (ref34_asked_S1 v) some = (ref34_asked_r2 C v).eval fun y => some (ref34_asked_S2 y) := by kernel_rfl
abbrev ref34_asked_Y3 : Type := Int
def ref34_asked_S3 (v : ref34_asked_Y3) : St := ⟨[(8, .int .i64 v)], []⟩
def ref34_asked_r3 (C : ref34_asked_C) (v : ref34_asked_Y2) : Dt ref34_asked_Y3 := (Dt.ret v.2.2.1)
theorem ref34_asked_g3 (C : ref34_asked_C) (v : ref34_asked_Y2) : treg tysT (orc (ref34_asked_tab C)) 26 (regO (bodyOf f73) 3) false [(8, .any)] (ref34_asked_S2 v) some = (ref34_asked_r3 C v).eval fun y => some (ref34_asked_S3 y) := by kernel_rfl
abbrev ref34_asked_Y4 : Type := Int × Bool × List Diii
def ref34_asked_S4 (v : ref34_asked_Y4) : St := ⟨[(1, .int .i64 v.1), (4, .ptr 0 0), (21, .bool v.2.1)], [.cells [.fz Riii v.2.2]]⟩
def ref34_asked_r4 (C : ref34_asked_C) (v : ref34_asked_Y2) : Dt ref34_asked_Y4 := (Dt.ite (decide (v.2.1 < (0:Int))) (Dt.ret (v.1, true, v.2.2.2.2)) (Dt.ret (v.1, (decide (v.2.1 > (64:Int))), v.2.2.2.2)))
theorem ref34_asked_g4 (C : ref34_asked_C) (v : ref34_asked_Y2) : treg tysT (orc (ref34_asked_tab C)) 26 (regO (bodyOf f73) 4) false [(1, .any), (4, (.box [.val Riii])), (21, .any)] (ref34_asked_S2 v) some = (ref34_asked_r4 C v).eval fun y => some (ref34_asked_S4 y) := by kernel_rfl
def ref34_asked_r5 (C : ref34_asked_C) (v : ref34_asked_Y4) : Dt ref34_asked_Y3 := (Dt.ret (2:Int))
theorem ref34_asked_g5 (C : ref34_asked_C) (v : ref34_asked_Y4) : treg tysT (orc (ref34_asked_tab C)) 26 (regO (bodyOf f73) 5) false [(8, .any)] (ref34_asked_S4 v) some = (ref34_asked_r5 C v).eval fun y => some (ref34_asked_S3 y) := by kernel_rfl
abbrev ref34_asked_Y6 : Type := Bool
def ref34_asked_S6 (v : ref34_asked_Y6) : St := ⟨[(25, .bool v)], []⟩
def ref34_asked_r6 (C : ref34_asked_C) (v : ref34_asked_Y4) : Dt ref34_asked_Y6 := (Dt.bnd (C.1 ((v.2.2, ()), (v.1, ()), ())) fun r1 => (Dt.ret (decide (r1 < (0:Int)))))
theorem ref34_asked_g6 (C : ref34_asked_C) (v : ref34_asked_Y4) : treg tysT (orc (ref34_asked_tab C)) 26 (regO (bodyOf f73) 6) false [(25, .any)] (ref34_asked_S4 v) some = (ref34_asked_r6 C v).eval fun y => some (ref34_asked_S6 y) := by kernel_rfl
def ref34_asked_r7 (C : ref34_asked_C) (v : ref34_asked_Y6) : Dt ref34_asked_Y3 := (Dt.ret (6:Int))
theorem ref34_asked_g7 (C : ref34_asked_C) (v : ref34_asked_Y6) : treg tysT (orc (ref34_asked_tab C)) 26 (regO (bodyOf f73) 7) false [(8, .any)] (ref34_asked_S6 v) some = (ref34_asked_r7 C v).eval fun y => some (ref34_asked_S3 y) := by kernel_rfl
def ref34_asked_r8 (C : ref34_asked_C) (v : ref34_asked_Y6) : Dt ref34_asked_Y3 := (Dt.ret (0:Int))
theorem ref34_asked_g8 (C : ref34_asked_C) (v : ref34_asked_Y6) : treg tysT (orc (ref34_asked_tab C)) 26 (regO (bodyOf f73) 8) false [(8, .any)] (ref34_asked_S6 v) some = (ref34_asked_r8 C v).eval fun y => some (ref34_asked_S3 y) := by kernel_rfl
def F_ref34_asked (d : Nat) (x : ref34_asked_X) : Option ref34_asked_R :=
  (ref34_asked_r0 (ref34_asked_K d) (x.1.1, x.2.1.1, x.2.2.1.1, x.2.2.1.2.1, x.2.2.2.1.1)).eval fun y0 =>
  (ref34_asked_r1 (ref34_asked_K d) y0).eval fun y1 =>
  (ref34_asked_r2 (ref34_asked_K d) y1).eval fun y2 =>
  bif y2.2.2.2.1 then ((ref34_asked_r3 (ref34_asked_K d) y2).eval fun y3 =>
  some y3) else ((ref34_asked_r4 (ref34_asked_K d) y2).eval fun y4 =>
  bif y4.2.1 then ((ref34_asked_r5 (ref34_asked_K d) y4).eval fun y5 =>
  some y5) else ((ref34_asked_r6 (ref34_asked_K d) y4).eval fun y6 =>
  bif y6 then ((ref34_asked_r7 (ref34_asked_K d) y6).eval fun y7 =>
  some y7) else ((ref34_asked_r8 (ref34_asked_K d) y6).eval fun y8 =>
  some y8)))
theorem ref34_asked_cok (d : Nat) : COK prog (ref34_asked_sp (F_ref34_asked d)) := by
  have hm : prog.follows .mixedOrders = true := mixed
  have hT := tys
  have hC0 : OrcOK prog (orc (ref34_asked_tab (ref34_asked_K d))) := orc_ok (by
    intro S hS
    simp only [ref34_asked_tab, List.mem_cons, List.not_mem_nil, or_false] at hS
    rcases hS with rfl | rfl
    · exact ref03_At_cok d
    · exact ref03_Timed_cok d)
  have hC : OrcOK prog (orc (ref34_asked_tab (ref34_asked_K d))) := hC0
  refine cok_of (c := bodyOf f73) (fn := f73) hT (by kernel_rfl) (by kernel_rfl) (by decide) fun x r h w0 φ0 Q hend => ?_
  replace h : F_ref34_asked d x = some r := h
  unfold F_ref34_asked at h
  show Run prog w0 φ0 26 (bodyOf f73) ⟨[(0, .agg [.fz Riii x.1.1]), (1, .int .i64 x.2.1.1), (2, .agg [.int .i64 x.2.2.1.1, .int .i64 x.2.2.1.2.1]), (3, .int .i64 x.2.2.2.1.1)], []⟩ Q
  refine run_seq ?_
  refine run_reg hm hT hC (ref34_asked_g0 (ref34_asked_K d) (x.1.1, x.2.1.1, x.2.2.1.1, x.2.2.1.2.1, x.2.2.2.1.1)) h ?_
  intro y0 h
  refine cn_then ?_
  refine run_seq ?_
  refine run_seq ?_
  refine run_reg hm hT hC (ref34_asked_g1 (ref34_asked_K d) y0) h ?_
  intro y1 h
  refine cn_then ?_
  refine run_seq ?_
  refine run_reg hm hT hC (ref34_asked_g2 (ref34_asked_K d) y1) h ?_
  intro y2 h
  refine cn_then ?_
  refine run_cond (v := y2.2.2.2.1) (by kernel_rfl) h ?_ ?_
  ·
    intro h
    refine run_seq ?_
    refine run_reg hm hT hC (ref34_asked_g3 (ref34_asked_K d) y2) h ?_
    intro y3 h
    refine cn_then ?_
    refine run_ret ?_
    refine cn_then_ret ?_
    cases h
    exact (hend _ (by kernel_rfl)).2
  ·
    intro h
    refine run_skip ?_
    refine cn_then ?_
    refine run_seq ?_
    refine run_seq ?_
    refine run_reg hm hT hC (ref34_asked_g4 (ref34_asked_K d) y2) h ?_
    intro y4 h
    refine cn_then ?_
    refine run_cond (v := y4.2.1) (by kernel_rfl) h ?_ ?_
    ·
      intro h
      refine run_seq ?_
      refine run_reg hm hT hC (ref34_asked_g5 (ref34_asked_K d) y4) h ?_
      intro y5 h
      refine cn_then ?_
      refine run_ret ?_
      refine cn_then_ret ?_
      cases h
      exact (hend _ (by kernel_rfl)).2
    ·
      intro h
      refine run_skip ?_
      refine cn_then ?_
      refine run_seq ?_
      refine run_seq ?_
      refine run_reg hm hT hC (ref34_asked_g6 (ref34_asked_K d) y4) h ?_
      intro y6 h
      refine cn_then ?_
      refine run_cond (v := y6) (by kernel_rfl) h ?_ ?_
      ·
        intro h
        refine run_seq ?_
        refine run_reg hm hT hC (ref34_asked_g7 (ref34_asked_K d) y6) h ?_
        intro y7 h
        refine cn_then ?_
        refine run_ret ?_
        refine cn_then_ret ?_
        cases h
        exact (hend _ (by kernel_rfl)).2
      ·
        intro h
        refine run_skip ?_
        refine cn_then ?_
        refine run_seq ?_
        refine run_reg hm hT hC (ref34_asked_g8 (ref34_asked_K d) y6) h ?_
        intro y8 h
        refine cn_then ?_
        refine run_ret ?_
        cases h
        exact (hend _ (by kernel_rfl)).2
abbrev ref34_Plan_ps : List Pk := [.row RLiiiE true, .row Ri false, .row Rii true, .row Ri false]
abbrev ref34_Plan_X : Type := DLiiiE × Di × Dii × Di × Unit
abbrev ref34_Plan_R : Type := List Diiii × Int
def ref34_Plan_enc (r : ref34_Plan_R) : LV × List Ob := (.tup [.fz Riiii r.1, .int .i64 r.2], [])
def ref34_Plan_sp (F : ref34_Plan_X → Option ref34_Plan_R) : Go.Tx.Spec := ⟨31, ref34_Plan_ps, ref34_Plan_R, F, ref34_Plan_enc⟩
abbrev ref34_Plan_C : Type := (ref34_behind_X → Option ref34_behind_R) × (ref34_asked_X → Option ref34_asked_R) × Unit
def ref34_Plan_K (d : Nat) : ref34_Plan_C := (F_ref34_behind d, F_ref34_asked d, ())
def ref34_Plan_tab (C : ref34_Plan_C) : List Go.Tx.Spec := [ref34_behind_sp C.1, ref34_asked_sp C.2.1]
abbrev ref34_Plan_Y0i : Type := List Diii × Int × Int × Int × Int
def ref34_Plan_S0i (v : ref34_Plan_Y0i) : St := ⟨[(0, .agg [.fz Riii v.1]), (1, .int .i64 v.2.1), (2, .agg [.int .i64 v.2.2.1, .int .i64 v.2.2.2.1]), (3, .int .i64 v.2.2.2.2)], []⟩
abbrev ref34_Plan_Y0 : Type := Int × Int × List Diii × Int × Int
def ref34_Plan_S0 (v : ref34_Plan_Y0) : St := ⟨[(1, .int .i64 v.1), (3, .int .i64 v.2.1), (4, .ptr 0 0), (6, .ptr 1 0)], [.cells [.fz Riii v.2.2.1], .cells [.int .i64 v.2.2.2.1, .int .i64 v.2.2.2.2]]⟩
def ref34_Plan_r0 (C : ref34_Plan_C) (v : ref34_Plan_Y0i) : Dt ref34_Plan_Y0 := (Dt.ret (v.2.1, v.2.2.2.2, v.1, v.2.2.1, v.2.2.2.1))
theorem ref34_Plan_g0 (C : ref34_Plan_C) (v : ref34_Plan_Y0i) : treg tysT (orc (ref34_Plan_tab C)) 30 (regO (bodyOf f31) 0) false [(1, .any), (3, .any), (4, (.box [.val Riii])), (6, .any)] (ref34_Plan_S0i v) some = (ref34_Plan_r0 C v).eval fun y => some (ref34_Plan_S0 y) := by kernel_rfl
abbrev ref34_Plan_Y1 : Type := Int × Int × Int × List Diii × Int × Int
def ref34_Plan_S1 (v : ref34_Plan_Y1) : St := ⟨[(1, .int .i64 v.1), (3, .int .i64 v.2.1), (4, .ptr 0 0), (6, .ptr 1 0), (10, .int .i64 v.2.2.1)], [.cells [.fz Riii v.2.2.2.1], .cells [.int .i64 v.2.2.2.2.1, .int .i64 v.2.2.2.2.2]]⟩
def ref34_Plan_r1 (C : ref34_Plan_C) (v : ref34_Plan_Y0) : Dt ref34_Plan_Y1 := (Dt.bnd (C.2.1 ((v.2.2.1, ()), (v.1, ()), (v.2.2.2.1, v.2.2.2.2, ()), (v.2.1, ()), ())) fun r1 => (Dt.ret (v.1, v.2.1, r1, v.2.2.1, v.2.2.2.1, v.2.2.2.2)))
theorem ref34_Plan_g1 (C : ref34_Plan_C) (v : ref34_Plan_Y0) : treg tysT (orc (ref34_Plan_tab C)) 30 (regO (bodyOf f31) 1) false [(1, .any), (3, .any), (4, (.box [.val Riii])), (6, .any), (10, .any)] (ref34_Plan_S0 v) some = (ref34_Plan_r1 C v).eval fun y => some (ref34_Plan_S1 y) := by kernel_rfl
abbrev ref34_Plan_Y2 : Type := Int × Int × Int × Bool × List Diii × Int × Int
def ref34_Plan_S2 (v : ref34_Plan_Y2) : St := ⟨[(1, .int .i64 v.1), (3, .int .i64 v.2.1), (4, .ptr 0 0), (6, .ptr 1 0), (10, .int .i64 v.2.2.1), (18, .bool v.2.2.2.1)], [.cells [.fz Riii v.2.2.2.2.1], .cells [.int .i64 v.2.2.2.2.2.1, .int .i64 v.2.2.2.2.2.2]]⟩
def ref34_Plan_r2 (C : ref34_Plan_C) (v : ref34_Plan_Y1) : Dt ref34_Plan_Y2 := (Dt.ret (v.1, v.2.1, v.2.2.1, (v.2.2.1 != (0:Int)), v.2.2.2.1, v.2.2.2.2.1, v.2.2.2.2.2))
theorem ref34_Plan_g2 (C : ref34_Plan_C) (v : ref34_Plan_Y1) : treg tysT (orc (ref34_Plan_tab C)) 30 (regO (bodyOf f31) 2) false [(1, .any), (3, .any), (4, (.box [.val Riii])), (6, .any), (10, .any), (18, .any)] (ref34_Plan_S1 v) some = (ref34_Plan_r2 C v).eval fun y => some (ref34_Plan_S2 y) := by kernel_rfl
abbrev ref34_Plan_Y3 : Type := List Diiii × Int
def ref34_Plan_S3 (v : ref34_Plan_Y3) : St := ⟨[(8, .fz Riiii v.1), (9, .int .i64 v.2)], []⟩
def ref34_Plan_r3 (C : ref34_Plan_C) (v : ref34_Plan_Y2) : Dt ref34_Plan_Y3 := (Dt.ret (([] : List Diiii), v.2.2.1))
theorem ref34_Plan_g3 (C : ref34_Plan_C) (v : ref34_Plan_Y2) : treg tysT (orc (ref34_Plan_tab C)) 30 (regO (bodyOf f31) 3) false [(8, (.val Riiii)), (9, .any)] (ref34_Plan_S2 v) some = (ref34_Plan_r3 C v).eval fun y => some (ref34_Plan_S3 y) := by kernel_rfl
abbrev ref34_Plan_Y4 : Type := Int × List Diiii
def ref34_Plan_S4 (v : ref34_Plan_Y4) : St := ⟨[(3, .int .i64 v.1), (11, .rs 0)], [.rows Riiii v.2]⟩
def ref34_Plan_r4 (C : ref34_Plan_C) (v : ref34_Plan_Y2) : Dt ref34_Plan_Y4 := (Dt.bnd (C.1 ((v.2.2.2.2.1, ()), (v.1, ()), (v.2.2.2.2.2.1, v.2.2.2.2.2.2, ()), ())) fun r1 => (Dt.ret (v.2.1, r1)))
theorem ref34_Plan_g4 (C : ref34_Plan_C) (v : ref34_Plan_Y2) : treg tysT (orc (ref34_Plan_tab C)) 30 (regO (bodyOf f31) 4) false [(3, .any), (11, (.own Riiii))] (ref34_Plan_S2 v) some = (ref34_Plan_r4 C v).eval fun y => some (ref34_Plan_S4 y) := by kernel_rfl
def ref34_Plan_r5 (C : ref34_Plan_C) (v : ref34_Plan_Y4) : Dt ref34_Plan_Y3 := (Dt.ite (decide (0 ≤ (tmin v.1 (List.length v.2 : Int))) && decide ((tmin v.1 (List.length v.2 : Int)) ≤ (List.length v.2 : Int))) (Dt.ret ((List.take ((tmin v.1 (List.length v.2 : Int))).toNat v.2), (0:Int))) Dt.fail)
theorem ref34_Plan_g5 (C : ref34_Plan_C) (v : ref34_Plan_Y4) : treg tysT (orc (ref34_Plan_tab C)) 30 (regO (bodyOf f31) 5) false [(8, (.val Riiii)), (9, .any)] (ref34_Plan_S4 v) some = (ref34_Plan_r5 C v).eval fun y => some (ref34_Plan_S3 y) := by kernel_rfl
def F_ref34_Plan (d : Nat) (x : ref34_Plan_X) : Option ref34_Plan_R :=
  (ref34_Plan_r0 (ref34_Plan_K d) (x.1.1, x.2.1.1, x.2.2.1.1, x.2.2.1.2.1, x.2.2.2.1.1)).eval fun y0 =>
  (ref34_Plan_r1 (ref34_Plan_K d) y0).eval fun y1 =>
  (ref34_Plan_r2 (ref34_Plan_K d) y1).eval fun y2 =>
  bif y2.2.2.2.1 then ((ref34_Plan_r3 (ref34_Plan_K d) y2).eval fun y3 =>
  some y3) else ((ref34_Plan_r4 (ref34_Plan_K d) y2).eval fun y4 =>
  (ref34_Plan_r5 (ref34_Plan_K d) y4).eval fun y5 =>
  some y5)
theorem ref34_Plan_cok (d : Nat) : COK prog (ref34_Plan_sp (F_ref34_Plan d)) := by
  have hm : prog.follows .mixedOrders = true := mixed
  have hT := tys
  have hC0 : OrcOK prog (orc (ref34_Plan_tab (ref34_Plan_K d))) := orc_ok (by
    intro S hS
    simp only [ref34_Plan_tab, List.mem_cons, List.not_mem_nil, or_false] at hS
    rcases hS with rfl | rfl
    · exact ref34_behind_cok d
    · exact ref34_asked_cok d)
  have hC : OrcOK prog (orc (ref34_Plan_tab (ref34_Plan_K d))) := hC0
  refine cok_of (c := bodyOf f31) (fn := f31) hT (by kernel_rfl) (by kernel_rfl) (by decide) fun x r h w0 φ0 Q hend => ?_
  replace h : F_ref34_Plan d x = some r := h
  unfold F_ref34_Plan at h
  show Run prog w0 φ0 30 (bodyOf f31) ⟨[(0, .agg [.fz Riii x.1.1]), (1, .int .i64 x.2.1.1), (2, .agg [.int .i64 x.2.2.1.1, .int .i64 x.2.2.1.2.1]), (3, .int .i64 x.2.2.2.1.1)], []⟩ Q
  refine run_seq ?_
  refine run_reg hm hT hC (ref34_Plan_g0 (ref34_Plan_K d) (x.1.1, x.2.1.1, x.2.2.1.1, x.2.2.1.2.1, x.2.2.2.1.1)) h ?_
  intro y0 h
  refine cn_then ?_
  refine run_seq ?_
  refine run_seq ?_
  refine run_reg hm hT hC (ref34_Plan_g1 (ref34_Plan_K d) y0) h ?_
  intro y1 h
  refine cn_then ?_
  refine run_seq ?_
  refine run_reg hm hT hC (ref34_Plan_g2 (ref34_Plan_K d) y1) h ?_
  intro y2 h
  refine cn_then ?_
  refine run_cond (v := y2.2.2.2.1) (by kernel_rfl) h ?_ ?_
  ·
    intro h
    refine run_seq ?_
    refine run_reg hm hT hC (ref34_Plan_g3 (ref34_Plan_K d) y2) h ?_
    intro y3 h
    refine cn_then ?_
    refine run_ret ?_
    refine cn_then_ret ?_
    cases h
    exact (hend _ (by kernel_rfl)).2
  ·
    intro h
    refine run_skip ?_
    refine cn_then ?_
    refine run_seq ?_
    refine run_reg hm hT hC (ref34_Plan_g4 (ref34_Plan_K d) y2) h ?_
    intro y4 h
    refine cn_then ?_
    refine run_seq ?_
    refine run_reg hm hT hC (ref34_Plan_g5 (ref34_Plan_K d) y4) h ?_
    intro y5 h
    refine cn_then ?_
    refine run_ret ?_
    cases h
    exact (hend _ (by kernel_rfl)).2
abbrev ref34_Chain_ps : List Pk := [.row RLiiiE true, .row Ri false, .row Rii true, .row Ri false]
abbrev ref34_Chain_X : Type := DLiiiE × Di × Dii × Di × Unit
abbrev ref34_Chain_R : Type := List Diiii × Int
def ref34_Chain_enc (r : ref34_Chain_R) : LV × List Ob := (.tup [.rs 0, .int .i64 r.2], [.rows Riiii r.1])
def ref34_Chain_sp (F : ref34_Chain_X → Option ref34_Chain_R) : Go.Tx.Spec := ⟨33, ref34_Chain_ps, ref34_Chain_R, F, ref34_Chain_enc⟩
abbrev ref34_Chain_C : Type := (ref34_Other_X → Option ref34_Other_R) × (ref34_behind_X → Option ref34_behind_R) × (ref34_asked_X → Option ref34_asked_R) × Unit
def ref34_Chain_K (d : Nat) : ref34_Chain_C := (F_ref34_Other d, F_ref34_behind d, F_ref34_asked d, ())
def ref34_Chain_tab (C : ref34_Chain_C) : List Go.Tx.Spec := [ref34_Other_sp C.1, ref34_behind_sp C.2.1, ref34_asked_sp C.2.2.1]
abbrev ref34_Chain_Y0i : Type := List Diii × Int × Int × Int × Int
def ref34_Chain_S0i (v : ref34_Chain_Y0i) : St := ⟨[(0, .agg [.fz Riii v.1]), (1, .int .i64 v.2.1), (2, .agg [.int .i64 v.2.2.1, .int .i64 v.2.2.2.1]), (3, .int .i64 v.2.2.2.2)], []⟩
abbrev ref34_Chain_Y0 : Type := Int × Int × List Diii × Int × Int
def ref34_Chain_S0 (v : ref34_Chain_Y0) : St := ⟨[(1, .int .i64 v.1), (3, .int .i64 v.2.1), (4, .ptr 0 0), (6, .ptr 1 0)], [.cells [.fz Riii v.2.2.1], .cells [.int .i64 v.2.2.2.1, .int .i64 v.2.2.2.2]]⟩
def ref34_Chain_r0 (C : ref34_Chain_C) (v : ref34_Chain_Y0i) : Dt ref34_Chain_Y0 := (Dt.ret (v.2.1, v.2.2.2.2, v.1, v.2.2.1, v.2.2.2.1))
theorem ref34_Chain_g0 (C : ref34_Chain_C) (v : ref34_Chain_Y0i) : treg tysT (orc (ref34_Chain_tab C)) 48 (regO (bodyOf f33) 0) false [(1, .any), (3, .any), (4, (.box [.val Riii])), (6, .any)] (ref34_Chain_S0i v) some = (ref34_Chain_r0 C v).eval fun y => some (ref34_Chain_S0 y) := by kernel_rfl
abbrev ref34_Chain_Y1 : Type := Int × Int × Int × List Diii × Int × Int
def ref34_Chain_S1 (v : ref34_Chain_Y1) : St := ⟨[(1, .int .i64 v.1), (3, .int .i64 v.2.1), (4, .ptr 0 0), (6, .ptr 1 0), (10, .int .i64 v.2.2.1)], [.cells [.fz Riii v.2.2.2.1], .cells [.int .i64 v.2.2.2.2.1, .int .i64 v.2.2.2.2.2]]⟩
def ref34_Chain_r1 (C : ref34_Chain_C) (v : ref34_Chain_Y0) : Dt ref34_Chain_Y1 := (Dt.bnd (C.2.2.1 ((v.2.2.1, ()), (v.1, ()), (v.2.2.2.1, v.2.2.2.2, ()), (v.2.1, ()), ())) fun r1 => (Dt.ret (v.1, v.2.1, r1, v.2.2.1, v.2.2.2.1, v.2.2.2.2)))
theorem ref34_Chain_g1 (C : ref34_Chain_C) (v : ref34_Chain_Y0) : treg tysT (orc (ref34_Chain_tab C)) 48 (regO (bodyOf f33) 1) false [(1, .any), (3, .any), (4, (.box [.val Riii])), (6, .any), (10, .any)] (ref34_Chain_S0 v) some = (ref34_Chain_r1 C v).eval fun y => some (ref34_Chain_S1 y) := by kernel_rfl
abbrev ref34_Chain_Y2 : Type := Int × Int × Int × Bool × List Diii × Int × Int
def ref34_Chain_S2 (v : ref34_Chain_Y2) : St := ⟨[(1, .int .i64 v.1), (3, .int .i64 v.2.1), (4, .ptr 0 0), (6, .ptr 1 0), (10, .int .i64 v.2.2.1), (19, .bool v.2.2.2.1)], [.cells [.fz Riii v.2.2.2.2.1], .cells [.int .i64 v.2.2.2.2.2.1, .int .i64 v.2.2.2.2.2.2]]⟩
def ref34_Chain_r2 (C : ref34_Chain_C) (v : ref34_Chain_Y1) : Dt ref34_Chain_Y2 := (Dt.ret (v.1, v.2.1, v.2.2.1, (v.2.2.1 != (0:Int)), v.2.2.2.1, v.2.2.2.2.1, v.2.2.2.2.2))
theorem ref34_Chain_g2 (C : ref34_Chain_C) (v : ref34_Chain_Y1) : treg tysT (orc (ref34_Chain_tab C)) 48 (regO (bodyOf f33) 2) false [(1, .any), (3, .any), (4, (.box [.val Riii])), (6, .any), (10, .any), (19, .any)] (ref34_Chain_S1 v) some = (ref34_Chain_r2 C v).eval fun y => some (ref34_Chain_S2 y) := by kernel_rfl
abbrev ref34_Chain_Y3 : Type := Int × List Diiii
def ref34_Chain_S3 (v : ref34_Chain_Y3) : St := ⟨[(8, .rs 0), (9, .int .i64 v.1)], [.rows Riiii v.2]⟩
def ref34_Chain_r3 (C : ref34_Chain_C) (v : ref34_Chain_Y2) : Dt ref34_Chain_Y3 := (Dt.ret (v.2.2.1, ([] : List Diiii)))
theorem ref34_Chain_g3 (C : ref34_Chain_C) (v : ref34_Chain_Y2) : treg tysT (orc (ref34_Chain_tab C)) 48 (regO (bodyOf f33) 3) false [(8, (.own Riiii)), (9, .any)] (ref34_Chain_S2 v) some = (ref34_Chain_r3 C v).eval fun y => some (ref34_Chain_S3 y) := by kernel_rfl
abbrev ref34_Chain_Y4 : Type := Int × Int × List Diii × Int × Int × List Diiii
def ref34_Chain_S4 (v : ref34_Chain_Y4) : St := ⟨[(1, .int .i64 v.1), (3, .int .i64 v.2.1), (4, .ptr 0 0), (6, .ptr 1 0), (11, .rs 2)], [.cells [.fz Riii v.2.2.1], .cells [.int .i64 v.2.2.2.1, .int .i64 v.2.2.2.2.1], .rows Riiii v.2.2.2.2.2]⟩
def ref34_Chain_r4 (C : ref34_Chain_C) (v : ref34_Chain_Y2) : Dt ref34_Chain_Y4 := (Dt.ret (v.1, v.2.1, v.2.2.2.2.1, v.2.2.2.2.2.1, v.2.2.2.2.2.2, ([] : List Diiii)))
theorem ref34_Chain_g4 (C : ref34_Chain_C) (v : ref34_Chain_Y2) : treg tysT (orc (ref34_Chain_tab C)) 48 (regO (bodyOf f33) 4) false [(1, .any), (3, .any), (4, (.box [.val Riii])), (6, .any), (11, (.own Riiii))] (ref34_Chain_S2 v) some = (ref34_Chain_r4 C v).eval fun y => some (ref34_Chain_S4 y) := by kernel_rfl
abbrev ref34_Chain_Y5 : Type := Int × Int × Bool × List Diii × Int × Int × List Diiii
def ref34_Chain_S5 (v : ref34_Chain_Y5) : St := ⟨[(1, .int .i64 v.1), (3, .int .i64 v.2.1), (4, .ptr 0 0), (6, .ptr 1 0), (11, .rs 2), (24, .bool v.2.2.1)], [.cells [.fz Riii v.2.2.2.1], .cells [.int .i64 v.2.2.2.2.1, .int .i64 v.2.2.2.2.2.1], .rows Riiii v.2.2.2.2.2.2]⟩
def ref34_Chain_r5 (C : ref34_Chain_C) (v : ref34_Chain_Y4) : Dt ref34_Chain_Y5 := (Dt.ret (v.1, v.2.1, (decide ((List.length v.2.2.2.2.2 : Int) < v.2.1)), v.2.2.1, v.2.2.2.1, v.2.2.2.2.1, v.2.2.2.2.2))
theorem ref34_Chain_g5 (C : ref34_Chain_C) (v : ref34_Chain_Y4) : treg tysT (orc (ref34_Chain_tab C)) 48 (regO (bodyOf f33) 5) false [(1, .any), (3, .any), (4, (.box [.val Riii])), (6, .any), (11, (.own Riiii)), (24, .any)] (ref34_Chain_S4 v) some = (ref34_Chain_r5 C v).eval fun y => some (ref34_Chain_S5 y) := by kernel_rfl
abbrev ref34_Chain_Y6 : Type := Int × Int × List Diii × Int × Int × List Diiii × List Diiii
def ref34_Chain_S6 (v : ref34_Chain_Y6) : St := ⟨[(1, .int .i64 v.1), (3, .int .i64 v.2.1), (4, .ptr 0 0), (6, .ptr 1 0), (11, .rs 2), (12, .rs 3)], [.cells [.fz Riii v.2.2.1], .cells [.int .i64 v.2.2.2.1, .int .i64 v.2.2.2.2.1], .rows Riiii v.2.2.2.2.2.1, .rows Riiii v.2.2.2.2.2.2]⟩
def ref34_Chain_r6 (C : ref34_Chain_C) (v : ref34_Chain_Y5) : Dt ref34_Chain_Y6 := (Dt.bnd (C.2.1 ((v.2.2.2.1, ()), (v.1, ()), (v.2.2.2.2.1, v.2.2.2.2.2.1, ()), ())) fun r1 => (Dt.ret (v.1, v.2.1, v.2.2.2.1, v.2.2.2.2.1, v.2.2.2.2.2.1, v.2.2.2.2.2.2, r1)))
theorem ref34_Chain_g6 (C : ref34_Chain_C) (v : ref34_Chain_Y5) : treg tysT (orc (ref34_Chain_tab C)) 48 (regO (bodyOf f33) 6) false [(1, .any), (3, .any), (4, (.box [.val Riii])), (6, .any), (11, (.own Riiii)), (12, (.own Riiii))] (ref34_Chain_S5 v) some = (ref34_Chain_r6 C v).eval fun y => some (ref34_Chain_S6 y) := by kernel_rfl
abbrev ref34_Chain_Y7 : Type := Int × Int × Bool × List Diii × Int × Int × List Diiii × List Diiii
def ref34_Chain_S7 (v : ref34_Chain_Y7) : St := ⟨[(1, .int .i64 v.1), (3, .int .i64 v.2.1), (4, .ptr 0 0), (6, .ptr 1 0), (11, .rs 2), (12, .rs 3), (31, .bool v.2.2.1)], [.cells [.fz Riii v.2.2.2.1], .cells [.int .i64 v.2.2.2.2.1, .int .i64 v.2.2.2.2.2.1], .rows Riiii v.2.2.2.2.2.2.1, .rows Riiii v.2.2.2.2.2.2.2]⟩
def ref34_Chain_r7 (C : ref34_Chain_C) (v : ref34_Chain_Y6) : Dt ref34_Chain_Y7 := (Dt.ret (v.1, v.2.1, ((List.length v.2.2.2.2.2.2 : Int) == (0:Int)), v.2.2.1, v.2.2.2.1, v.2.2.2.2.1, v.2.2.2.2.2.1, v.2.2.2.2.2.2))
theorem ref34_Chain_g7 (C : ref34_Chain_C) (v : ref34_Chain_Y6) : treg tysT (orc (ref34_Chain_tab C)) 48 (regO (bodyOf f33) 7) false [(1, .any), (3, .any), (4, (.box [.val Riii])), (6, .any), (11, (.own Riiii)), (12, (.own Riiii)), (31, .any)] (ref34_Chain_S6 v) some = (ref34_Chain_r7 C v).eval fun y => some (ref34_Chain_S7 y) := by kernel_rfl
def ref34_Chain_r10 (C : ref34_Chain_C) (v : ref34_Chain_Y4) : Dt ref34_Chain_Y3 := (Dt.ret ((0:Int), v.2.2.2.2.2))
theorem ref34_Chain_g10 (C : ref34_Chain_C) (v : ref34_Chain_Y4) : treg tysT (orc (ref34_Chain_tab C)) 48 (regO (bodyOf f33) 10) false [(8, (.own Riiii)), (9, .any)] (ref34_Chain_S4 v) some = (ref34_Chain_r10 C v).eval fun y => some (ref34_Chain_S3 y) := by kernel_rfl
def ref34_Chain_J1  (d : Nat)  (z : Int × Int × List Diii × Int × Int × List Diiii) : Option (ref34_Chain_R) :=
  (ref34_Chain_r10 (ref34_Chain_K d) z).eval fun y10 =>
  some (y10.2, y10.1)
def ref34_Chain_r8 (C : ref34_Chain_C) (v : ref34_Chain_Y7) : Dt ref34_Chain_Y6 := (Dt.ite (inB (0:Int) (List.length v.2.2.2.2.2.2.2)) (Dt.ite (apB (List.length v.2.2.2.2.2.2.1) (List.length ([((elt ziiii v.2.2.2.2.2.2.2 ((0:Int)).toNat).1, (elt ziiii v.2.2.2.2.2.2.2 ((0:Int)).toNat).2.1, (elt ziiii v.2.2.2.2.2.2.2 ((0:Int)).toNat).2.2.1, (elt ziiii v.2.2.2.2.2.2.2 ((0:Int)).toNat).2.2.2.1, ())] : List Diiii))) (Dt.ret (v.1, v.2.1, v.2.2.2.1, v.2.2.2.2.1, v.2.2.2.2.2.1, (v.2.2.2.2.2.2.1 ++ ([((elt ziiii v.2.2.2.2.2.2.2 ((0:Int)).toNat).1, (elt ziiii v.2.2.2.2.2.2.2 ((0:Int)).toNat).2.1, (elt ziiii v.2.2.2.2.2.2.2 ((0:Int)).toNat).2.2.1, (elt ziiii v.2.2.2.2.2.2.2 ((0:Int)).toNat).2.2.2.1, ())] : List Diiii)), v.2.2.2.2.2.2.2)) Dt.fail) Dt.fail)
theorem ref34_Chain_g8 (C : ref34_Chain_C) (v : ref34_Chain_Y7) : treg tysT (orc (ref34_Chain_tab C)) 48 (regO (bodyOf f33) 8) false [(1, .any), (3, .any), (4, (.box [.val Riii])), (6, .any), (11, (.own Riiii)), (12, (.own Riiii))] (ref34_Chain_S7 v) some = (ref34_Chain_r8 C v).eval fun y => some (ref34_Chain_S6 y) := by kernel_rfl
def ref34_Chain_r9 (C : ref34_Chain_C) (v : ref34_Chain_Y6) : Dt ref34_Chain_Y4 := (Dt.ite (inB (0:Int) (List.length v.2.2.2.2.2.2)) (Dt.bnd (C.1 (((elt ziiii v.2.2.2.2.2.2 ((0:Int)).toNat).1, (elt ziiii v.2.2.2.2.2.2 ((0:Int)).toNat).2.1, (elt ziiii v.2.2.2.2.2.2 ((0:Int)).toNat).2.2.1, (elt ziiii v.2.2.2.2.2.2 ((0:Int)).toNat).2.2.2.1, ()), (v.1, ()), ())) fun r1 => (Dt.ite (inB (0:Int) (List.length v.2.2.2.2.2.2)) (Dt.ret (r1, v.2.1, v.2.2.1, (elt ziiii v.2.2.2.2.2.2 ((0:Int)).toNat).1, (elt ziiii v.2.2.2.2.2.2 ((0:Int)).toNat).2.1, v.2.2.2.2.2.1)) Dt.fail)) Dt.fail)
theorem ref34_Chain_g9 (C : ref34_Chain_C) (v : ref34_Chain_Y6) : treg tysT (orc (ref34_Chain_tab C)) 48 (regO (bodyOf f33) 9) true [(1, .any), (3, .any), (4, (.box [.val Riii])), (6, .any), (11, (.own Riiii))] (ref34_Chain_S6 v) some = (ref34_Chain_r9 C v).eval fun y => some (ref34_Chain_S4 y) := by kernel_rfl
def ref34_Chain_L2 (d : Nat) (self2 : (Int × Int × List Diii × Int × Int × List Diiii) → Option ref34_Chain_R) (x2 : Int × Int × List Diii × Int × Int × List Diiii) : Option ref34_Chain_R :=
  (ref34_Chain_r5 (ref34_Chain_K d) x2).eval fun y5 =>
  bif y5.2.2.1 then ((ref34_Chain_r6 (ref34_Chain_K d) y5).eval fun y6 =>
  (ref34_Chain_r7 (ref34_Chain_K d) y6).eval fun y7 =>
  bif y7.2.2.1 then (ref34_Chain_J1 d  (y7.1, y7.2.1, y7.2.2.2.1, y7.2.2.2.2.1, y7.2.2.2.2.2.1, y7.2.2.2.2.2.2.1)) else ((ref34_Chain_r8 (ref34_Chain_K d) y7).eval fun y8 =>
  (ref34_Chain_r9 (ref34_Chain_K d) y8).eval fun y9 =>
  self2 y9)) else (ref34_Chain_J1 d  (y5.1, y5.2.1, y5.2.2.2.1, y5.2.2.2.2.1, y5.2.2.2.2.2.1, y5.2.2.2.2.2.2))
def F_ref34_Chain (d : Nat) (x : ref34_Chain_X) : Option ref34_Chain_R :=
  (ref34_Chain_r0 (ref34_Chain_K d) (x.1.1, x.2.1.1, x.2.2.1.1, x.2.2.1.2.1, x.2.2.2.1.1)).eval fun y0 =>
  (ref34_Chain_r1 (ref34_Chain_K d) y0).eval fun y1 =>
  (ref34_Chain_r2 (ref34_Chain_K d) y1).eval fun y2 =>
  bif y2.2.2.2.1 then ((ref34_Chain_r3 (ref34_Chain_K d) y2).eval fun y3 =>
  some (y3.2, y3.1)) else ((ref34_Chain_r4 (ref34_Chain_K d) y2).eval fun y4 =>
  iter (ref34_Chain_L2 d ) d y4)
theorem ref34_Chain_cok (d : Nat) : COK prog (ref34_Chain_sp (F_ref34_Chain d)) := by
  have hm : prog.follows .mixedOrders = true := mixed
  have hT := tys
  have hC0 : OrcOK prog (orc (ref34_Chain_tab (ref34_Chain_K d))) := orc_ok (by
    intro S hS
    simp only [ref34_Chain_tab, List.mem_cons, List.not_mem_nil, or_false] at hS
    rcases hS with rfl | rfl | rfl
    · exact ref34_Other_cok d
    · exact ref34_behind_cok d
    · exact ref34_asked_cok d)
  have hC : OrcOK prog (orc (ref34_Chain_tab (ref34_Chain_K d))) := hC0
  refine cok_of (c := bodyOf f33) (fn := f33) hT (by kernel_rfl) (by kernel_rfl) (by decide) fun x r h w0 φ0 Q hend => ?_
  replace h : F_ref34_Chain d x = some r := h
  unfold F_ref34_Chain at h
  show Run prog w0 φ0 48 (bodyOf f33) ⟨[(0, .agg [.fz Riii x.1.1]), (1, .int .i64 x.2.1.1), (2, .agg [.int .i64 x.2.2.1.1, .int .i64 x.2.2.1.2.1]), (3, .int .i64 x.2.2.2.1.1)], []⟩ Q
  refine run_seq ?_
  refine run_reg hm hT hC (ref34_Chain_g0 (ref34_Chain_K d) (x.1.1, x.2.1.1, x.2.2.1.1, x.2.2.1.2.1, x.2.2.2.1.1)) h ?_
  intro y0 h
  refine cn_then ?_
  refine run_seq ?_
  refine run_seq ?_
  refine run_reg hm hT hC (ref34_Chain_g1 (ref34_Chain_K d) y0) h ?_
  intro y1 h
  refine cn_then ?_
  refine run_seq ?_
  refine run_reg hm hT hC (ref34_Chain_g2 (ref34_Chain_K d) y1) h ?_
  intro y2 h
  refine cn_then ?_
  refine run_cond (v := y2.2.2.2.1) (by kernel_rfl) h ?_ ?_
  ·
    intro h
    refine run_seq ?_
    refine run_reg hm hT hC (ref34_Chain_g3 (ref34_Chain_K d) y2) h ?_
    intro y3 h
    refine cn_then ?_
    refine run_ret ?_
    refine cn_then_ret ?_
    cases h
    exact (hend _ (by kernel_rfl)).2
  ·
    intro h
    refine run_skip ?_
    refine cn_then ?_
    refine run_seq ?_
    refine run_reg hm hT hC (ref34_Chain_g4 (ref34_Chain_K d) y2) h ?_
    intro y4 h
    refine cn_then ?_
    refine run_join (r := r) (F := ref34_Chain_J1 d ) (S := (fun z => ⟨[(1, .int .i64 z.1), (3, .int .i64 z.2.1), (4, .ptr 0 0), (6, .ptr 1 0), (11, .rs 2)], [.cells [.fz Riii z.2.2.1], .cells [.int .i64 z.2.2.2.1, .int .i64 z.2.2.2.2.1], .rows Riiii z.2.2.2.2.2]⟩ : Int × Int × List Diii × Int × Int × List Diiii → St)) ?_ ?_
    ·
      intro z h
      unfold ref34_Chain_J1 at h
      refine run_seq ?_
      refine run_reg hm hT hC (ref34_Chain_g10 (ref34_Chain_K d) z) h ?_
      intro y10 h
      refine cn_then ?_
      refine run_ret ?_
      cases h
      exact (hend _ (by kernel_rfl)).2
    intro hj1
    refine run_block ?_
    refine run_loop (G := iter (ref34_Chain_L2 d )) (S := (fun x2 => ⟨[(1, .int .i64 x2.1), (3, .int .i64 x2.2.1), (4, .ptr 0 0), (6, .ptr 1 0), (11, .rs 2)], [.cells [.fz Riii x2.2.2.1], .cells [.int .i64 x2.2.2.2.1, .int .i64 x2.2.2.2.2.1], .rows Riiii x2.2.2.2.2.2]⟩ : Int × Int × List Diii × Int × Int × List Diiii → St)) (fun _ => rfl) ?_ d _ h
    intro n2 x2 h K2 hn2
    replace h : ref34_Chain_L2 d  (iter (ref34_Chain_L2 d ) n2) x2 = some r := h
    generalize iter (ref34_Chain_L2 d ) n2 = self2 at h hn2
    unfold ref34_Chain_L2 at h
    refine run_seq ?_
    refine run_seq ?_
    refine run_reg hm hT hC (ref34_Chain_g5 (ref34_Chain_K d) x2) h ?_
    intro y5 h
    refine cn_then ?_
    refine run_cond (v := y5.2.2.1) (by kernel_rfl) h ?_ ?_
    ·
      intro h
      refine run_skip ?_
      refine cn_then ?_
      refine run_block ?_
      refine run_seq ?_
      refine run_reg hm hT hC (ref34_Chain_g6 (ref34_Chain_K d) y5) h ?_
      intro y6 h
      refine cn_then ?_
      refine run_seq ?_
      refine run_seq ?_
      refine run_reg hm hT hC (ref34_Chain_g7 (ref34_Chain_K d) y6) h ?_
      intro y7 h
      refine cn_then ?_
      refine run_cond (v := y7.2.2.1) (by kernel_rfl) h ?_ ?_
      ·
        intro h
        refine run_exit ?_
        refine cn_then_exit ?_
        refine cn_blk_ne (by rfl) ?_
        refine cn_then_exit ?_
        refine cn_blk_eq ?_
        refine cn_num (s := ⟨[(1, .int .i64 y7.1), (3, .int .i64 y7.2.1), (4, .ptr 0 0), (6, .ptr 1 0), (11, .rs 2)], [.cells [.fz Riii y7.2.2.2.1], .cells [.int .i64 y7.2.2.2.2.1, .int .i64 y7.2.2.2.2.2.1], .rows Riiii y7.2.2.2.2.2.2.1]⟩) [12, 31] (by kernel_rfl) ?_
        exact hj1 _ h
      ·
        intro h
        refine run_skip ?_
        refine cn_then ?_
        refine run_seq ?_
        refine run_reg hm hT hC (ref34_Chain_g8 (ref34_Chain_K d) y7) h ?_
        intro y8 h
        refine cn_then ?_
        refine run_reg hm hT hC (ref34_Chain_g9 (ref34_Chain_K d) y8) h ?_
        intro y9 h
        refine cn_blk ?_
        exact hn2 _ h
    ·
      intro h
      refine run_exit ?_
      refine cn_then_exit ?_
      refine cn_then_exit ?_
      refine cn_blk_eq ?_
      refine cn_num (s := ⟨[(1, .int .i64 y5.1), (3, .int .i64 y5.2.1), (4, .ptr 0 0), (6, .ptr 1 0), (11, .rs 2)], [.cells [.fz Riii y5.2.2.2.1], .cells [.int .i64 y5.2.2.2.2.1, .int .i64 y5.2.2.2.2.2.1], .rows Riiii y5.2.2.2.2.2.2]⟩) [24] (by kernel_rfl) ?_
      exact hj1 _ h
abbrev ref34_Catch_ps : List Pk := [.row RLiiiE true, .row Ri false, .row Ri false, .row Rii true]
abbrev ref34_Catch_X : Type := DLiiiE × Di × Di × Dii × Unit
abbrev ref34_Catch_R : Type := Int × Int × Int
def ref34_Catch_enc (r : ref34_Catch_R) : LV × List Ob := (.tup [.agg [.int .i64 r.1, .int .i64 r.2.1], .int .i64 r.2.2], [])
def ref34_Catch_sp (F : ref34_Catch_X → Option ref34_Catch_R) : Go.Tx.Spec := ⟨37, ref34_Catch_ps, ref34_Catch_R, F, ref34_Catch_enc⟩
abbrev ref34_Catch_C : Type := (ref03_At_X → Option ref03_At_R) × (ref01_Compare_X → Option ref01_Compare_R) × (ref03_Timed_X → Option ref03_Timed_R) × (ref02_Met_X → Option ref02_Met_R) × Unit
def ref34_Catch_K (d : Nat) : ref34_Catch_C := (F_ref03_At d, F_ref01_Compare d, F_ref03_Timed d, F_ref02_Met d, ())
def ref34_Catch_tab (C : ref34_Catch_C) : List Go.Tx.Spec := [ref03_At_sp C.1, ref01_Compare_sp C.2.1, ref03_Timed_sp C.2.2.1, ref02_Met_sp C.2.2.2.1]
abbrev ref34_Catch_Y0i : Type := List Diii × Int × Int × Int × Int
def ref34_Catch_S0i (v : ref34_Catch_Y0i) : St := ⟨[(0, .agg [.fz Riii v.1]), (1, .int .i64 v.2.1), (2, .int .i64 v.2.2.1), (3, .agg [.int .i64 v.2.2.2.1, .int .i64 v.2.2.2.2])], []⟩
abbrev ref34_Catch_Y0 : Type := Int × Int × List Diii × Int × Int × Int × Int
def ref34_Catch_S0 (v : ref34_Catch_Y0) : St := ⟨[(1, .int .i64 v.1), (2, .int .i64 v.2.1), (4, .ptr 0 0), (7, .ptr 1 0), (8, .ptr 2 0)], [.cells [.fz Riii v.2.2.1], .cells [.int .i64 v.2.2.2.1, .int .i64 v.2.2.2.2.1], .cells [.int .i64 v.2.2.2.2.2.1, .int .i64 v.2.2.2.2.2.2]]⟩
def ref34_Catch_r0 (C : ref34_Catch_C) (v : ref34_Catch_Y0i) : Dt ref34_Catch_Y0 := (Dt.ret (v.2.1, v.2.2.1, v.1, v.2.2.2.1, v.2.2.2.2, (0:Int), (0:Int)))
theorem ref34_Catch_g0 (C : ref34_Catch_C) (v : ref34_Catch_Y0i) : treg tysT (orc (ref34_Catch_tab C)) 66 (regO (bodyOf f37) 0) false [(1, .any), (2, .any), (4, (.box [.val Riii])), (7, .any), (8, .any)] (ref34_Catch_S0i v) some = (ref34_Catch_r0 C v).eval fun y => some (ref34_Catch_S0 y) := by kernel_rfl
abbrev ref34_Catch_Y1 : Type := Int × Int × Int × List Diii × Int × Int × Int × Int
def ref34_Catch_S1 (v : ref34_Catch_Y1) : St := ⟨[(1, .int .i64 v.1), (2, .int .i64 v.2.1), (4, .ptr 0 0), (7, .ptr 1 0), (8, .ptr 2 0), (10, .int .i64 v.2.2.1)], [.cells [.fz Riii v.2.2.2.1], .cells [.int .i64 v.2.2.2.2.1, .int .i64 v.2.2.2.2.2.1], .cells [.int .i64 v.2.2.2.2.2.2.1, .int .i64 v.2.2.2.2.2.2.2]]⟩
def ref34_Catch_r1 (C : ref34_Catch_C) (v : ref34_Catch_Y0) : Dt ref34_Catch_Y1 := (Dt.bnd (C.2.2.1 ((v.2.2.1, ()), (v.2.2.2.1, v.2.2.2.2.1, ()), ())) fun r1 => (Dt.ret (v.1, v.2.1, r1, v.2.2.1, v.2.2.2.1, v.2.2.2.2.1, v.2.2.2.2.2.1, v.2.2.2.2.2.2)))
theorem ref34_Catch_g1 (C : ref34_Catch_C) (v : ref34_Catch_Y0) : treg tysT (orc (ref34_Catch_tab C)) 66 (regO (bodyOf f37) 1) false [(1, .any), (2, .any), (4, (.box [.val Riii])), (7, .any), (8, .any), (10, .any)] (ref34_Catch_S0 v) some = (ref34_Catch_r1 C v).eval fun y => some (ref34_Catch_S1 y) := by kernel_rfl
abbrev ref34_Catch_Y2 : Type := Int × Int × Int × Bool × List Diii × Int × Int × Int × Int
def ref34_Catch_S2 (v : ref34_Catch_Y2) : St := ⟨[(1, .int .i64 v.1), (2, .int .i64 v.2.1), (4, .ptr 0 0), (7, .ptr 1 0), (8, .ptr 2 0), (10, .int .i64 v.2.2.1), (19, .bool v.2.2.2.1)], [.cells [.fz Riii v.2.2.2.2.1], .cells [.int .i64 v.2.2.2.2.2.1, .int .i64 v.2.2.2.2.2.2.1], .cells [.int .i64 v.2.2.2.2.2.2.2.1, .int .i64 v.2.2.2.2.2.2.2.2]]⟩
def ref34_Catch_r2 (C : ref34_Catch_C) (v : ref34_Catch_Y1) : Dt ref34_Catch_Y2 := (Dt.ret (v.1, v.2.1, v.2.2.1, (v.2.2.1 != (0:Int)), v.2.2.2.1, v.2.2.2.2.1, v.2.2.2.2.2.1, v.2.2.2.2.2.2.1, v.2.2.2.2.2.2.2))
theorem ref34_Catch_g2 (C : ref34_Catch_C) (v : ref34_Catch_Y1) : treg tysT (orc (ref34_Catch_tab C)) 66 (regO (bodyOf f37) 2) false [(1, .any), (2, .any), (4, (.box [.val Riii])), (7, .any), (8, .any), (10, .any), (19, .any)] (ref34_Catch_S1 v) some = (ref34_Catch_r2 C v).eval fun y => some (ref34_Catch_S2 y) := by kernel_rfl
abbrev ref34_Catch_Y3 : Type := Int × Int × Int
def ref34_Catch_S3 (v : ref34_Catch_Y3) : St := ⟨[(8, .ptr 0 0), (9, .int .i64 v.1)], [.cells [.int .i64 v.2.1, .int .i64 v.2.2]]⟩
def ref34_Catch_r3 (C : ref34_Catch_C) (v : ref34_Catch_Y2) : Dt ref34_Catch_Y3 := (Dt.ret (v.2.2.1, (0:Int), (0:Int)))
theorem ref34_Catch_g3 (C : ref34_Catch_C) (v : ref34_Catch_Y2) : treg tysT (orc (ref34_Catch_tab C)) 66 (regO (bodyOf f37) 3) false [(8, .any), (9, .any)] (ref34_Catch_S2 v) some = (ref34_Catch_r3 C v).eval fun y => some (ref34_Catch_S3 y) := by kernel_rfl
abbrev ref34_Catch_Y4 : Type := Int × Int × Bool × List Diii × Int × Int × Int × Int
def ref34_Catch_S4 (v : ref34_Catch_Y4) : St := ⟨[(1, .int .i64 v.1), (2, .int .i64 v.2.1), (4, .ptr 0 0), (7, .ptr 1 0), (8, .ptr 2 0), (24, .bool v.2.2.1)], [.cells [.fz Riii v.2.2.2.1], .cells [.int .i64 v.2.2.2.2.1, .int .i64 v.2.2.2.2.2.1], .cells [.int .i64 v.2.2.2.2.2.2.1, .int .i64 v.2.2.2.2.2.2.2]]⟩
def ref34_Catch_r4 (C : ref34_Catch_C) (v : ref34_Catch_Y2) : Dt ref34_Catch_Y4 := (Dt.ret (v.1, v.2.1, (v.1 == v.2.1), v.2.2.2.2.1, v.2.2.2.2.2.1, v.2.2.2.2.2.2.1, v.2.2.2.2.2.2.2.1, v.2.2.2.2.2.2.2.2))
theorem ref34_Catch_g4 (C : ref34_Catch_C) (v : ref34_Catch_Y2) : treg tysT (orc (ref34_Catch_tab C)) 66 (regO (bodyOf f37) 4) false [(1, .any), (2, .any), (4, (.box [.val Riii])), (7, .any), (8, .any), (24, .any)] (ref34_Catch_S2 v) some = (ref34_Catch_r4 C v).eval fun y => some (ref34_Catch_S4 y) := by kernel_rfl
def ref34_Catch_r5 (C : ref34_Catch_C) (v : ref34_Catch_Y4) : Dt ref34_Catch_Y3 := (Dt.ret ((2:Int), (0:Int), (0:Int)))
theorem ref34_Catch_g5 (C : ref34_Catch_C) (v : ref34_Catch_Y4) : treg tysT (orc (ref34_Catch_tab C)) 66 (regO (bodyOf f37) 5) false [(8, .any), (9, .any)] (ref34_Catch_S4 v) some = (ref34_Catch_r5 C v).eval fun y => some (ref34_Catch_S3 y) := by kernel_rfl
abbrev ref34_Catch_Y6 : Type := Int × Int × List Diii × Int × Int × Int × Int
def ref34_Catch_S6 (v : ref34_Catch_Y6) : St := ⟨[(4, .ptr 0 0), (7, .ptr 1 0), (8, .ptr 2 0), (11, .int .i64 v.1), (12, .int .i64 v.2.1)], [.cells [.fz Riii v.2.2.1], .cells [.int .i64 v.2.2.2.1, .int .i64 v.2.2.2.2.1], .cells [.int .i64 v.2.2.2.2.2.1, .int .i64 v.2.2.2.2.2.2]]⟩
def ref34_Catch_r6 (C : ref34_Catch_C) (v : ref34_Catch_Y4) : Dt ref34_Catch_Y6 := (Dt.bnd (C.1 ((v.2.2.2.1, ()), (v.1, ()), ())) fun r1 => (Dt.bnd (C.1 ((v.2.2.2.1, ()), (v.2.1, ()), ())) fun r2 => (Dt.ret (r1, r2, v.2.2.2.1, v.2.2.2.2.1, v.2.2.2.2.2.1, v.2.2.2.2.2.2.1, v.2.2.2.2.2.2.2))))
theorem ref34_Catch_g6 (C : ref34_Catch_C) (v : ref34_Catch_Y4) : treg tysT (orc (ref34_Catch_tab C)) 66 (regO (bodyOf f37) 6) true [(4, (.box [.val Riii])), (7, .any), (8, .any), (11, .any), (12, .any)] (ref34_Catch_S4 v) some = (ref34_Catch_r6 C v).eval fun y => some (ref34_Catch_S6 y) := by kernel_rfl
abbrev ref34_Catch_Y7 : Type := Int × Int × Bool × List Diii × Int × Int × Int × Int
def ref34_Catch_S7 (v : ref34_Catch_Y7) : St := ⟨[(4, .ptr 0 0), (7, .ptr 1 0), (8, .ptr 2 0), (11, .int .i64 v.1), (12, .int .i64 v.2.1), (37, .bool v.2.2.1)], [.cells [.fz Riii v.2.2.2.1], .cells [.int .i64 v.2.2.2.2.1, .int .i64 v.2.2.2.2.2.1], .cells [.int .i64 v.2.2.2.2.2.2.1, .int .i64 v.2.2.2.2.2.2.2]]⟩
def ref34_Catch_r7 (C : ref34_Catch_C) (v : ref34_Catch_Y6) : Dt ref34_Catch_Y7 := (Dt.ite (decide (v.1 < (0:Int))) (Dt.ret (v.1, v.2.1, true, v.2.2.1, v.2.2.2.1, v.2.2.2.2.1, v.2.2.2.2.2.1, v.2.2.2.2.2.2)) (Dt.ret (v.1, v.2.1, (decide (v.2.1 < (0:Int))), v.2.2.1, v.2.2.2.1, v.2.2.2.2.1, v.2.2.2.2.2.1, v.2.2.2.2.2.2)))
theorem ref34_Catch_g7 (C : ref34_Catch_C) (v : ref34_Catch_Y6) : treg tysT (orc (ref34_Catch_tab C)) 66 (regO (bodyOf f37) 7) false [(4, (.box [.val Riii])), (7, .any), (8, .any), (11, .any), (12, .any), (37, .any)] (ref34_Catch_S6 v) some = (ref34_Catch_r7 C v).eval fun y => some (ref34_Catch_S7 y) := by kernel_rfl
def ref34_Catch_r8 (C : ref34_Catch_C) (v : ref34_Catch_Y7) : Dt ref34_Catch_Y3 := (Dt.ret ((6:Int), (0:Int), (0:Int)))
theorem ref34_Catch_g8 (C : ref34_Catch_C) (v : ref34_Catch_Y7) : treg tysT (orc (ref34_Catch_tab C)) 66 (regO (bodyOf f37) 8) false [(8, .any), (9, .any)] (ref34_Catch_S7 v) some = (ref34_Catch_r8 C v).eval fun y => some (ref34_Catch_S3 y) := by kernel_rfl
abbrev ref34_Catch_Y9 : Type := Int × Int × Int × Int × Int × Int × Int × Int × Int × Int
def ref34_Catch_S9 (v : ref34_Catch_Y9) : St := ⟨[(7, .ptr 0 0), (8, .ptr 1 0), (13, .ptr 2 0), (14, .ptr 3 0)], [.cells [.int .i64 v.1, .int .i64 v.2.1], .cells [.int .i64 v.2.2.1, .int .i64 v.2.2.2.1], .cells [.int .i64 v.2.2.2.2.1, .int .i64 v.2.2.2.2.2.1, .int .i64 v.2.2.2.2.2.2.1], .cells [.int .i64 v.2.2.2.2.2.2.2.1, .int .i64 v.2.2.2.2.2.2.2.2.1, .int .i64 v.2.2.2.2.2.2.2.2.2]]⟩
def ref34_Catch_r9 (C : ref34_Catch_C) (v : ref34_Catch_Y7) : Dt ref34_Catch_Y9 := (Dt.ite (inB v.1 (List.length v.2.2.2.1)) (Dt.ite (inB v.2.1 (List.length v.2.2.2.1)) (Dt.ret (v.2.2.2.2.1, v.2.2.2.2.2.1, v.2.2.2.2.2.2.1, v.2.2.2.2.2.2.2, (elt ziii v.2.2.2.1 (v.1).toNat).1, (elt ziii v.2.2.2.1 (v.1).toNat).2.1, (elt ziii v.2.2.2.1 (v.1).toNat).2.2.1, (elt ziii v.2.2.2.1 (v.2.1).toNat).1, (elt ziii v.2.2.2.1 (v.2.1).toNat).2.1, (elt ziii v.2.2.2.1 (v.2.1).toNat).2.2.1)) Dt.fail) Dt.fail)
theorem ref34_Catch_g9 (C : ref34_Catch_C) (v : ref34_Catch_Y7) : treg tysT (orc (ref34_Catch_tab C)) 66 (regO (bodyOf f37) 9) true [(7, .any), (8, .any), (13, .any), (14, .any)] (ref34_Catch_S7 v) some = (ref34_Catch_r9 C v).eval fun y => some (ref34_Catch_S9 y) := by kernel_rfl
abbrev ref34_Catch_Y10 : Type := Bool × Int × Int × Int × Int × Int × Int × Int × Int
def ref34_Catch_S10 (v : ref34_Catch_Y10) : St := ⟨[(8, .ptr 0 0), (13, .ptr 1 0), (14, .ptr 2 0), (61, .bool v.1)], [.cells [.int .i64 v.2.1, .int .i64 v.2.2.1], .cells [.int .i64 v.2.2.2.1, .int .i64 v.2.2.2.2.1, .int .i64 v.2.2.2.2.2.1], .cells [.int .i64 v.2.2.2.2.2.2.1, .int .i64 v.2.2.2.2.2.2.2.1, .int .i64 v.2.2.2.2.2.2.2.2]]⟩
def ref34_Catch_r10 (C : ref34_Catch_C) (v : ref34_Catch_Y9) : Dt ref34_Catch_Y10 := (Dt.ite (decide (v.2.2.2.2.2.2.1 ≤ v.2.2.2.2.2.2.2.2.2)) (Dt.ret (true, v.2.2.1, v.2.2.2.1, v.2.2.2.2.1, v.2.2.2.2.2.1, v.2.2.2.2.2.2.1, v.2.2.2.2.2.2.2.1, v.2.2.2.2.2.2.2.2.1, v.2.2.2.2.2.2.2.2.2)) (Dt.bnd (C.2.2.2.1 ((v.2.2.2.2.1, v.2.2.2.2.2.1, v.2.2.2.2.2.2.1, ()), (v.2.2.2.2.2.2.2.1, v.2.2.2.2.2.2.2.2.1, v.2.2.2.2.2.2.2.2.2, ()), ())) fun r1 => (Dt.bnd (C.2.1 ((r1.1, r1.2, ()), (v.1, v.2.1, ()), ())) fun r2 => (Dt.ret ((decide (r2 ≤ (0:Int))), v.2.2.1, v.2.2.2.1, v.2.2.2.2.1, v.2.2.2.2.2.1, v.2.2.2.2.2.2.1, v.2.2.2.2.2.2.2.1, v.2.2.2.2.2.2.2.2.1, v.2.2.2.2.2.2.2.2.2)))))
theorem ref34_Catch_g10 (C : ref34_Catch_C) (v : ref34_Catch_Y9) : treg tysT (orc (ref34_Catch_tab C)) 66 (regO (bodyOf f37) 10) true [(8, .any), (13, .any), (14, .any), (61, .any)] (ref34_Catch_S9 v) some = (ref34_Catch_r10 C v).eval fun y => some (ref34_Catch_S10 y) := by kernel_rfl
def ref34_Catch_r11 (C : ref34_Catch_C) (v : ref34_Catch_Y10) : Dt ref34_Catch_Y3 := (Dt.ret ((6:Int), (0:Int), (0:Int)))
theorem ref34_Catch_g11 (C : ref34_Catch_C) (v : ref34_Catch_Y10) : treg tysT (orc (ref34_Catch_tab C)) 66 (regO (bodyOf f37) 11) false [(8, .any), (9, .any)] (ref34_Catch_S10 v) some = (ref34_Catch_r11 C v).eval fun y => some (ref34_Catch_S3 y) := by kernel_rfl
def ref34_Catch_r12 (C : ref34_Catch_C) (v : ref34_Catch_Y10) : Dt ref34_Catch_Y3 := (Dt.bnd (C.2.2.2.1 ((v.2.2.2.1, v.2.2.2.2.1, v.2.2.2.2.2.1, ()), (v.2.2.2.2.2.2.1, v.2.2.2.2.2.2.2.1, v.2.2.2.2.2.2.2.2, ()), ())) fun r1 => (Dt.ret ((0:Int), r1.1, r1.2)))
theorem ref34_Catch_g12 (C : ref34_Catch_C) (v : ref34_Catch_Y10) : treg tysT (orc (ref34_Catch_tab C)) 66 (regO (bodyOf f37) 12) false [(8, .any), (9, .any)] (ref34_Catch_S10 v) some = (ref34_Catch_r12 C v).eval fun y => some (ref34_Catch_S3 y) := by kernel_rfl
def F_ref34_Catch (d : Nat) (x : ref34_Catch_X) : Option ref34_Catch_R :=
  (ref34_Catch_r0 (ref34_Catch_K d) (x.1.1, x.2.1.1, x.2.2.1.1, x.2.2.2.1.1, x.2.2.2.1.2.1)).eval fun y0 =>
  (ref34_Catch_r1 (ref34_Catch_K d) y0).eval fun y1 =>
  (ref34_Catch_r2 (ref34_Catch_K d) y1).eval fun y2 =>
  bif y2.2.2.2.1 then ((ref34_Catch_r3 (ref34_Catch_K d) y2).eval fun y3 =>
  some (y3.2.1, y3.2.2, y3.1)) else ((ref34_Catch_r4 (ref34_Catch_K d) y2).eval fun y4 =>
  bif y4.2.2.1 then ((ref34_Catch_r5 (ref34_Catch_K d) y4).eval fun y5 =>
  some (y5.2.1, y5.2.2, y5.1)) else ((ref34_Catch_r6 (ref34_Catch_K d) y4).eval fun y6 =>
  (ref34_Catch_r7 (ref34_Catch_K d) y6).eval fun y7 =>
  bif y7.2.2.1 then ((ref34_Catch_r8 (ref34_Catch_K d) y7).eval fun y8 =>
  some (y8.2.1, y8.2.2, y8.1)) else ((ref34_Catch_r9 (ref34_Catch_K d) y7).eval fun y9 =>
  (ref34_Catch_r10 (ref34_Catch_K d) y9).eval fun y10 =>
  bif y10.1 then ((ref34_Catch_r11 (ref34_Catch_K d) y10).eval fun y11 =>
  some (y11.2.1, y11.2.2, y11.1)) else ((ref34_Catch_r12 (ref34_Catch_K d) y10).eval fun y12 =>
  some (y12.2.1, y12.2.2, y12.1)))))
theorem ref34_Catch_cok (d : Nat) : COK prog (ref34_Catch_sp (F_ref34_Catch d)) := by
  have hm : prog.follows .mixedOrders = true := mixed
  have hT := tys
  have hC0 : OrcOK prog (orc (ref34_Catch_tab (ref34_Catch_K d))) := orc_ok (by
    intro S hS
    simp only [ref34_Catch_tab, List.mem_cons, List.not_mem_nil, or_false] at hS
    rcases hS with rfl | rfl | rfl | rfl
    · exact ref03_At_cok d
    · exact ref01_Compare_cok d
    · exact ref03_Timed_cok d
    · exact ref02_Met_cok d)
  have hC : OrcOK prog (orc (ref34_Catch_tab (ref34_Catch_K d))) := hC0
  refine cok_of (c := bodyOf f37) (fn := f37) hT (by kernel_rfl) (by kernel_rfl) (by decide) fun x r h w0 φ0 Q hend => ?_
  replace h : F_ref34_Catch d x = some r := h
  unfold F_ref34_Catch at h
  show Run prog w0 φ0 66 (bodyOf f37) ⟨[(0, .agg [.fz Riii x.1.1]), (1, .int .i64 x.2.1.1), (2, .int .i64 x.2.2.1.1), (3, .agg [.int .i64 x.2.2.2.1.1, .int .i64 x.2.2.2.1.2.1])], []⟩ Q
  refine run_seq ?_
  refine run_reg hm hT hC (ref34_Catch_g0 (ref34_Catch_K d) (x.1.1, x.2.1.1, x.2.2.1.1, x.2.2.2.1.1, x.2.2.2.1.2.1)) h ?_
  intro y0 h
  refine cn_then ?_
  refine run_seq ?_
  refine run_seq ?_
  refine run_reg hm hT hC (ref34_Catch_g1 (ref34_Catch_K d) y0) h ?_
  intro y1 h
  refine cn_then ?_
  refine run_seq ?_
  refine run_reg hm hT hC (ref34_Catch_g2 (ref34_Catch_K d) y1) h ?_
  intro y2 h
  refine cn_then ?_
  refine run_cond (v := y2.2.2.2.1) (by kernel_rfl) h ?_ ?_
  ·
    intro h
    refine run_seq ?_
    refine run_reg hm hT hC (ref34_Catch_g3 (ref34_Catch_K d) y2) h ?_
    intro y3 h
    refine cn_then ?_
    refine run_ret ?_
    refine cn_then_ret ?_
    cases h
    exact (hend _ (by kernel_rfl)).2
  ·
    intro h
    refine run_skip ?_
    refine cn_then ?_
    refine run_seq ?_
    refine run_seq ?_
    refine run_reg hm hT hC (ref34_Catch_g4 (ref34_Catch_K d) y2) h ?_
    intro y4 h
    refine cn_then ?_
    refine run_cond (v := y4.2.2.1) (by kernel_rfl) h ?_ ?_
    ·
      intro h
      refine run_seq ?_
      refine run_reg hm hT hC (ref34_Catch_g5 (ref34_Catch_K d) y4) h ?_
      intro y5 h
      refine cn_then ?_
      refine run_ret ?_
      refine cn_then_ret ?_
      cases h
      exact (hend _ (by kernel_rfl)).2
    ·
      intro h
      refine run_skip ?_
      refine cn_then ?_
      refine run_seq ?_
      refine run_reg hm hT hC (ref34_Catch_g6 (ref34_Catch_K d) y4) h ?_
      intro y6 h
      refine cn_then ?_
      refine run_seq ?_
      refine run_seq ?_
      refine run_reg hm hT hC (ref34_Catch_g7 (ref34_Catch_K d) y6) h ?_
      intro y7 h
      refine cn_then ?_
      refine run_cond (v := y7.2.2.1) (by kernel_rfl) h ?_ ?_
      ·
        intro h
        refine run_seq ?_
        refine run_reg hm hT hC (ref34_Catch_g8 (ref34_Catch_K d) y7) h ?_
        intro y8 h
        refine cn_then ?_
        refine run_ret ?_
        refine cn_then_ret ?_
        cases h
        exact (hend _ (by kernel_rfl)).2
      ·
        intro h
        refine run_skip ?_
        refine cn_then ?_
        refine run_seq ?_
        refine run_reg hm hT hC (ref34_Catch_g9 (ref34_Catch_K d) y7) h ?_
        intro y9 h
        refine cn_then ?_
        refine run_seq ?_
        refine run_seq ?_
        refine run_reg hm hT hC (ref34_Catch_g10 (ref34_Catch_K d) y9) h ?_
        intro y10 h
        refine cn_then ?_
        refine run_cond (v := y10.1) (by kernel_rfl) h ?_ ?_
        ·
          intro h
          refine run_seq ?_
          refine run_reg hm hT hC (ref34_Catch_g11 (ref34_Catch_K d) y10) h ?_
          intro y11 h
          refine cn_then ?_
          refine run_ret ?_
          refine cn_then_ret ?_
          cases h
          exact (hend _ (by kernel_rfl)).2
        ·
          intro h
          refine run_skip ?_
          refine cn_then ?_
          refine run_seq ?_
          refine run_reg hm hT hC (ref34_Catch_g12 (ref34_Catch_K d) y10) h ?_
          intro y12 h
          refine cn_then ?_
          refine run_ret ?_
          cases h
          exact (hend _ (by kernel_rfl)).2
abbrev ref01_Both_ps : List Pk := [.row Rii true, .row Rii true]
abbrev ref01_Both_X : Type := Dii × Dii × Unit
abbrev ref01_Both_R : Type := Int
def ref01_Both_enc (r : ref01_Both_R) : LV × List Ob := (.int .i64 r, [])
def ref01_Both_sp (F : ref01_Both_X → Option ref01_Both_R) : Go.Tx.Spec := ⟨77, ref01_Both_ps, ref01_Both_R, F, ref01_Both_enc⟩
abbrev ref01_Both_C : Type := (ref01_Check_X → Option ref01_Check_R) × Unit
def ref01_Both_K (d : Nat) : ref01_Both_C := (F_ref01_Check d, ())
def ref01_Both_tab (C : ref01_Both_C) : List Go.Tx.Spec := [ref01_Check_sp C.1]
abbrev ref01_Both_Y0i : Type := Int × Int × Int × Int
def ref01_Both_S0i (v : ref01_Both_Y0i) : St := ⟨[(0, .agg [.int .i64 v.1, .int .i64 v.2.1]), (1, .agg [.int .i64 v.2.2.1, .int .i64 v.2.2.2])], []⟩
abbrev ref01_Both_Y0 : Type := Int × Int × Int × Int
def ref01_Both_S0 (v : ref01_Both_Y0) : St := ⟨[(2, .ptr 0 0), (3, .ptr 1 0)], [.cells [.int .i64 v.1, .int .i64 v.2.1], .cells [.int .i64 v.2.2.1, .int .i64 v.2.2.2]]⟩
def ref01_Both_r0 (C : ref01_Both_C) (v : ref01_Both_Y0i) : Dt ref01_Both_Y0 := (Dt.ret (v.1, v.2.1, v.2.2.1, v.2.2.2))
theorem ref01_Both_g0 (C : ref01_Both_C) (v : ref01_Both_Y0i) : treg tysT (orc (ref01_Both_tab C)) 12 (regO (bodyOf f77) 0) false [(2, .any), (3, .any)] (ref01_Both_S0i v) some = (ref01_Both_r0 C v).eval fun y => some (ref01_Both_S0 y) := by kernel_rfl
abbrev ref01_Both_Y1 : Type := Bool × Int × Int × Int × Int
def ref01_Both_S1 (v : ref01_Both_Y1) : St := ⟨[(2, .ptr 0 0), (3, .ptr 1 0), (7, .bool v.1)], [.cells [.int .i64 v.2.1, .int .i64 v.2.2.1], .cells [.int .i64 v.2.2.2.1, .int .i64 v.2.2.2.2]]⟩
def ref01_Both_r1 (C : ref01_Both_C) (v : ref01_Both_Y0) : Dt ref01_Both_Y1 := (Dt.bnd (C.1 ((v.1, v.2.1, ()), ())) fun r1 => (Dt.ret ((r1 != (0:Int)), v.1, v.2.1, v.2.2.1, v.2.2.2)))
theorem ref01_Both_g1 (C : ref01_Both_C) (v : ref01_Both_Y0) : treg tysT (orc (ref01_Both_tab C)) 12 (regO (bodyOf f77) 1) false [(2, .any), (3, .any), (7, .any)] (ref01_Both_S0 v) some = (ref01_Both_r1 C v).eval fun y => some (ref01_Both_S1 y) := by kernel_rfl
abbrev ref01_Both_Y2 : Type := Int
def ref01_Both_S2 (v : ref01_Both_Y2) : St := ⟨[(4, .int .i64 v)], []⟩
def ref01_Both_r2 (C : ref01_Both_C) (v : ref01_Both_Y1) : Dt ref01_Both_Y2 := (Dt.bnd (C.1 ((v.2.1, v.2.2.1, ()), ())) fun r1 => (Dt.ret r1))
theorem ref01_Both_g2 (C : ref01_Both_C) (v : ref01_Both_Y1) : treg tysT (orc (ref01_Both_tab C)) 12 (regO (bodyOf f77) 2) false [(4, .any)] (ref01_Both_S1 v) some = (ref01_Both_r2 C v).eval fun y => some (ref01_Both_S2 y) := by kernel_rfl
def ref01_Both_r3 (C : ref01_Both_C) (v : ref01_Both_Y1) : Dt ref01_Both_Y2 := (Dt.bnd (C.1 ((v.2.2.2.1, v.2.2.2.2, ()), ())) fun r1 => (Dt.ret r1))
theorem ref01_Both_g3 (C : ref01_Both_C) (v : ref01_Both_Y1) : treg tysT (orc (ref01_Both_tab C)) 12 (regO (bodyOf f77) 3) false [(4, .any)] (ref01_Both_S1 v) some = (ref01_Both_r3 C v).eval fun y => some (ref01_Both_S2 y) := by kernel_rfl
def F_ref01_Both (d : Nat) (x : ref01_Both_X) : Option ref01_Both_R :=
  (ref01_Both_r0 (ref01_Both_K d) (x.1.1, x.1.2.1, x.2.1.1, x.2.1.2.1)).eval fun y0 =>
  (ref01_Both_r1 (ref01_Both_K d) y0).eval fun y1 =>
  bif y1.1 then ((ref01_Both_r2 (ref01_Both_K d) y1).eval fun y2 =>
  some y2) else ((ref01_Both_r3 (ref01_Both_K d) y1).eval fun y3 =>
  some y3)
theorem ref01_Both_cok (d : Nat) : COK prog (ref01_Both_sp (F_ref01_Both d)) := by
  have hm : prog.follows .mixedOrders = true := mixed
  have hT := tys
  have hC0 : OrcOK prog (orc (ref01_Both_tab (ref01_Both_K d))) := orc_ok (by
    intro S hS
    simp only [ref01_Both_tab, List.mem_cons, List.not_mem_nil, or_false] at hS
    subst hS; exact ref01_Check_cok d)
  have hC : OrcOK prog (orc (ref01_Both_tab (ref01_Both_K d))) := hC0
  refine cok_of (c := bodyOf f77) (fn := f77) hT (by kernel_rfl) (by kernel_rfl) (by decide) fun x r h w0 φ0 Q hend => ?_
  replace h : F_ref01_Both d x = some r := h
  unfold F_ref01_Both at h
  show Run prog w0 φ0 12 (bodyOf f77) ⟨[(0, .agg [.int .i64 x.1.1, .int .i64 x.1.2.1]), (1, .agg [.int .i64 x.2.1.1, .int .i64 x.2.1.2.1])], []⟩ Q
  refine run_seq ?_
  refine run_reg hm hT hC (ref01_Both_g0 (ref01_Both_K d) (x.1.1, x.1.2.1, x.2.1.1, x.2.1.2.1)) h ?_
  intro y0 h
  refine cn_then ?_
  refine run_seq ?_
  refine run_seq ?_
  refine run_reg hm hT hC (ref01_Both_g1 (ref01_Both_K d) y0) h ?_
  intro y1 h
  refine cn_then ?_
  refine run_cond (v := y1.1) (by kernel_rfl) h ?_ ?_
  ·
    intro h
    refine run_seq ?_
    refine run_reg hm hT hC (ref01_Both_g2 (ref01_Both_K d) y1) h ?_
    intro y2 h
    refine cn_then ?_
    refine run_ret ?_
    refine cn_then_ret ?_
    cases h
    exact (hend _ (by kernel_rfl)).2
  ·
    intro h
    refine run_skip ?_
    refine cn_then ?_
    refine run_seq ?_
    refine run_reg hm hT hC (ref01_Both_g3 (ref01_Both_K d) y1) h ?_
    intro y3 h
    refine cn_then ?_
    refine run_ret ?_
    cases h
    exact (hend _ (by kernel_rfl)).2
abbrev ref34_Caught_ps : List Pk := [.row RLiiiE true, .row Ri false, .row Rii true, .row Rii true]
abbrev ref34_Caught_X : Type := DLiiiE × Di × Dii × Dii × Unit
abbrev ref34_Caught_R : Type := List Di × List Di × Int
def ref34_Caught_enc (r : ref34_Caught_R) : LV × List Ob := (.tup [.rs 0, .rs 1, .int .i64 r.2.2], [.rows Ri r.1, .rows Ri r.2.1])
def ref34_Caught_sp (F : ref34_Caught_X → Option ref34_Caught_R) : Go.Tx.Spec := ⟨39, ref34_Caught_ps, ref34_Caught_R, F, ref34_Caught_enc⟩
abbrev ref34_Caught_C : Type := (ref03_At_X → Option ref03_At_R) × (ref01_Compare_X → Option ref01_Compare_R) × (ref34_Other_X → Option ref34_Other_R) × (ref03_Check_X → Option ref03_Check_R) × (ref34_behind_X → Option ref34_behind_R) × (ref01_Both_X → Option ref01_Both_R) × Unit
def ref34_Caught_K (d : Nat) : ref34_Caught_C := (F_ref03_At d, F_ref01_Compare d, F_ref34_Other d, F_ref03_Check d, F_ref34_behind d, F_ref01_Both d, ())
def ref34_Caught_tab (C : ref34_Caught_C) : List Go.Tx.Spec := [ref03_At_sp C.1, ref01_Compare_sp C.2.1, ref34_Other_sp C.2.2.1, ref03_Check_sp C.2.2.2.1, ref34_behind_sp C.2.2.2.2.1, ref01_Both_sp C.2.2.2.2.2.1]
abbrev ref34_Caught_Y0i : Type := List Diii × Int × Int × Int × Int × Int
def ref34_Caught_S0i (v : ref34_Caught_Y0i) : St := ⟨[(0, .agg [.fz Riii v.1]), (1, .int .i64 v.2.1), (2, .agg [.int .i64 v.2.2.1, .int .i64 v.2.2.2.1]), (3, .agg [.int .i64 v.2.2.2.2.1, .int .i64 v.2.2.2.2.2])], []⟩
abbrev ref34_Caught_Y0 : Type := Int × List Diii × Int × Int × Int × Int
def ref34_Caught_S0 (v : ref34_Caught_Y0) : St := ⟨[(1, .int .i64 v.1), (4, .ptr 0 0), (6, .ptr 1 0), (7, .ptr 2 0)], [.cells [.fz Riii v.2.1], .cells [.int .i64 v.2.2.1, .int .i64 v.2.2.2.1], .cells [.int .i64 v.2.2.2.2.1, .int .i64 v.2.2.2.2.2]]⟩
def ref34_Caught_r0 (C : ref34_Caught_C) (v : ref34_Caught_Y0i) : Dt ref34_Caught_Y0 := (Dt.ret (v.2.1, v.1, v.2.2.1, v.2.2.2.1, v.2.2.2.2.1, v.2.2.2.2.2))
theorem ref34_Caught_g0 (C : ref34_Caught_C) (v : ref34_Caught_Y0i) : treg tysT (orc (ref34_Caught_tab C)) 90 (regO (bodyOf f39) 0) false [(1, .any), (4, (.box [.val Riii])), (6, .any), (7, .any)] (ref34_Caught_S0i v) some = (ref34_Caught_r0 C v).eval fun y => some (ref34_Caught_S0 y) := by kernel_rfl
abbrev ref34_Caught_Y1 : Type := Int × Int × List Diii × Int × Int × Int × Int
def ref34_Caught_S1 (v : ref34_Caught_Y1) : St := ⟨[(1, .int .i64 v.1), (4, .ptr 0 0), (6, .ptr 1 0), (7, .ptr 2 0), (11, .int .i64 v.2.1)], [.cells [.fz Riii v.2.2.1], .cells [.int .i64 v.2.2.2.1, .int .i64 v.2.2.2.2.1], .cells [.int .i64 v.2.2.2.2.2.1, .int .i64 v.2.2.2.2.2.2]]⟩
def ref34_Caught_r1 (C : ref34_Caught_C) (v : ref34_Caught_Y0) : Dt ref34_Caught_Y1 := (Dt.bnd (C.2.2.2.1 ((v.2.1, ()), ())) fun r1 => (Dt.ret (v.1, r1, v.2.1, v.2.2.1, v.2.2.2.1, v.2.2.2.2.1, v.2.2.2.2.2)))
theorem ref34_Caught_g1 (C : ref34_Caught_C) (v : ref34_Caught_Y0) : treg tysT (orc (ref34_Caught_tab C)) 90 (regO (bodyOf f39) 1) false [(1, .any), (4, (.box [.val Riii])), (6, .any), (7, .any), (11, .any)] (ref34_Caught_S0 v) some = (ref34_Caught_r1 C v).eval fun y => some (ref34_Caught_S1 y) := by kernel_rfl
abbrev ref34_Caught_Y2 : Type := Int × Int × Bool × List Diii × Int × Int × Int × Int
def ref34_Caught_S2 (v : ref34_Caught_Y2) : St := ⟨[(1, .int .i64 v.1), (4, .ptr 0 0), (6, .ptr 1 0), (7, .ptr 2 0), (11, .int .i64 v.2.1), (22, .bool v.2.2.1)], [.cells [.fz Riii v.2.2.2.1], .cells [.int .i64 v.2.2.2.2.1, .int .i64 v.2.2.2.2.2.1], .cells [.int .i64 v.2.2.2.2.2.2.1, .int .i64 v.2.2.2.2.2.2.2]]⟩
def ref34_Caught_r2 (C : ref34_Caught_C) (v : ref34_Caught_Y1) : Dt ref34_Caught_Y2 := (Dt.ret (v.1, v.2.1, (v.2.1 != (0:Int)), v.2.2.1, v.2.2.2.1, v.2.2.2.2.1, v.2.2.2.2.2.1, v.2.2.2.2.2.2))
theorem ref34_Caught_g2 (C : ref34_Caught_C) (v : ref34_Caught_Y1) : treg tysT (orc (ref34_Caught_tab C)) 90 (regO (bodyOf f39) 2) false [(1, .any), (4, (.box [.val Riii])), (6, .any), (7, .any), (11, .any), (22, .any)] (ref34_Caught_S1 v) some = (ref34_Caught_r2 C v).eval fun y => some (ref34_Caught_S2 y) := by kernel_rfl
abbrev ref34_Caught_Y3 : Type := Int × List Di × List Di
def ref34_Caught_S3 (v : ref34_Caught_Y3) : St := ⟨[(8, .rs 0), (9, .rs 1), (10, .int .i64 v.1)], [.rows Ri v.2.1, .rows Ri v.2.2]⟩
def ref34_Caught_r3 (C : ref34_Caught_C) (v : ref34_Caught_Y2) : Dt ref34_Caught_Y3 := (Dt.ret (v.2.1, ([] : List Di), ([] : List Di)))
theorem ref34_Caught_g3 (C : ref34_Caught_C) (v : ref34_Caught_Y2) : treg tysT (orc (ref34_Caught_tab C)) 90 (regO (bodyOf f39) 3) false [(8, (.own Ri)), (9, (.own Ri)), (10, .any)] (ref34_Caught_S2 v) some = (ref34_Caught_r3 C v).eval fun y => some (ref34_Caught_S3 y) := by kernel_rfl
abbrev ref34_Caught_Y4 : Type := Int × Int × List Diii × Int × Int × Int × Int
def ref34_Caught_S4 (v : ref34_Caught_Y4) : St := ⟨[(1, .int .i64 v.1), (4, .ptr 0 0), (6, .ptr 1 0), (7, .ptr 2 0), (12, .int .i64 v.2.1)], [.cells [.fz Riii v.2.2.1], .cells [.int .i64 v.2.2.2.1, .int .i64 v.2.2.2.2.1], .cells [.int .i64 v.2.2.2.2.2.1, .int .i64 v.2.2.2.2.2.2]]⟩
def ref34_Caught_r4 (C : ref34_Caught_C) (v : ref34_Caught_Y2) : Dt ref34_Caught_Y4 := (Dt.bnd (C.2.2.2.2.2.1 ((v.2.2.2.2.1, v.2.2.2.2.2.1, ()), (v.2.2.2.2.2.2.1, v.2.2.2.2.2.2.2, ()), ())) fun r1 => (Dt.ret (v.1, r1, v.2.2.2.1, v.2.2.2.2.1, v.2.2.2.2.2.1, v.2.2.2.2.2.2.1, v.2.2.2.2.2.2.2)))
theorem ref34_Caught_g4 (C : ref34_Caught_C) (v : ref34_Caught_Y2) : treg tysT (orc (ref34_Caught_tab C)) 90 (regO (bodyOf f39) 4) false [(1, .any), (4, (.box [.val Riii])), (6, .any), (7, .any), (12, .any)] (ref34_Caught_S2 v) some = (ref34_Caught_r4 C v).eval fun y => some (ref34_Caught_S4 y) := by kernel_rfl
abbrev ref34_Caught_Y5 : Type := Int × Int × Bool × List Diii × Int × Int × Int × Int
def ref34_Caught_S5 (v : ref34_Caught_Y5) : St := ⟨[(1, .int .i64 v.1), (4, .ptr 0 0), (6, .ptr 1 0), (7, .ptr 2 0), (12, .int .i64 v.2.1), (28, .bool v.2.2.1)], [.cells [.fz Riii v.2.2.2.1], .cells [.int .i64 v.2.2.2.2.1, .int .i64 v.2.2.2.2.2.1], .cells [.int .i64 v.2.2.2.2.2.2.1, .int .i64 v.2.2.2.2.2.2.2]]⟩
def ref34_Caught_r5 (C : ref34_Caught_C) (v : ref34_Caught_Y4) : Dt ref34_Caught_Y5 := (Dt.ret (v.1, v.2.1, (v.2.1 != (0:Int)), v.2.2.1, v.2.2.2.1, v.2.2.2.2.1, v.2.2.2.2.2.1, v.2.2.2.2.2.2))
theorem ref34_Caught_g5 (C : ref34_Caught_C) (v : ref34_Caught_Y4) : treg tysT (orc (ref34_Caught_tab C)) 90 (regO (bodyOf f39) 5) false [(1, .any), (4, (.box [.val Riii])), (6, .any), (7, .any), (12, .any), (28, .any)] (ref34_Caught_S4 v) some = (ref34_Caught_r5 C v).eval fun y => some (ref34_Caught_S5 y) := by kernel_rfl
def ref34_Caught_r6 (C : ref34_Caught_C) (v : ref34_Caught_Y5) : Dt ref34_Caught_Y3 := (Dt.ret (v.2.1, ([] : List Di), ([] : List Di)))
theorem ref34_Caught_g6 (C : ref34_Caught_C) (v : ref34_Caught_Y5) : treg tysT (orc (ref34_Caught_tab C)) 90 (regO (bodyOf f39) 6) false [(8, (.own Ri)), (9, (.own Ri)), (10, .any)] (ref34_Caught_S5 v) some = (ref34_Caught_r6 C v).eval fun y => some (ref34_Caught_S3 y) := by kernel_rfl
abbrev ref34_Caught_Y7 : Type := Int × Bool × List Diii × Int × Int × Int × Int
def ref34_Caught_S7 (v : ref34_Caught_Y7) : St := ⟨[(1, .int .i64 v.1), (4, .ptr 0 0), (6, .ptr 1 0), (7, .ptr 2 0), (33, .bool v.2.1)], [.cells [.fz Riii v.2.2.1], .cells [.int .i64 v.2.2.2.1, .int .i64 v.2.2.2.2.1], .cells [.int .i64 v.2.2.2.2.2.1, .int .i64 v.2.2.2.2.2.2]]⟩
def ref34_Caught_r7 (C : ref34_Caught_C) (v : ref34_Caught_Y5) : Dt ref34_Caught_Y7 := (Dt.bnd (C.2.1 ((v.2.2.2.2.1, v.2.2.2.2.2.1, ()), (v.2.2.2.2.2.2.1, v.2.2.2.2.2.2.2, ()), ())) fun r1 => (Dt.ret (v.1, (decide (r1 > (0:Int))), v.2.2.2.1, v.2.2.2.2.1, v.2.2.2.2.2.1, v.2.2.2.2.2.2.1, v.2.2.2.2.2.2.2)))
theorem ref34_Caught_g7 (C : ref34_Caught_C) (v : ref34_Caught_Y5) : treg tysT (orc (ref34_Caught_tab C)) 90 (regO (bodyOf f39) 7) false [(1, .any), (4, (.box [.val Riii])), (6, .any), (7, .any), (33, .any)] (ref34_Caught_S5 v) some = (ref34_Caught_r7 C v).eval fun y => some (ref34_Caught_S7 y) := by kernel_rfl
def ref34_Caught_r8 (C : ref34_Caught_C) (v : ref34_Caught_Y7) : Dt ref34_Caught_Y3 := (Dt.ret ((2:Int), ([] : List Di), ([] : List Di)))
theorem ref34_Caught_g8 (C : ref34_Caught_C) (v : ref34_Caught_Y7) : treg tysT (orc (ref34_Caught_tab C)) 90 (regO (bodyOf f39) 8) false [(8, (.own Ri)), (9, (.own Ri)), (10, .any)] (ref34_Caught_S7 v) some = (ref34_Caught_r8 C v).eval fun y => some (ref34_Caught_S3 y) := by kernel_rfl
abbrev ref34_Caught_Y9 : Type := Int × Int × List Diii × Int × Int × Int × Int
def ref34_Caught_S9 (v : ref34_Caught_Y9) : St := ⟨[(1, .int .i64 v.1), (4, .ptr 0 0), (6, .ptr 1 0), (7, .ptr 2 0), (13, .int .i64 v.2.1)], [.cells [.fz Riii v.2.2.1], .cells [.int .i64 v.2.2.2.1, .int .i64 v.2.2.2.2.1], .cells [.int .i64 v.2.2.2.2.2.1, .int .i64 v.2.2.2.2.2.2]]⟩
def ref34_Caught_r9 (C : ref34_Caught_C) (v : ref34_Caught_Y7) : Dt ref34_Caught_Y9 := (Dt.bnd (C.1 ((v.2.2.1, ()), (v.1, ()), ())) fun r1 => (Dt.ret (v.1, r1, v.2.2.1, v.2.2.2.1, v.2.2.2.2.1, v.2.2.2.2.2.1, v.2.2.2.2.2.2)))
theorem ref34_Caught_g9 (C : ref34_Caught_C) (v : ref34_Caught_Y7) : treg tysT (orc (ref34_Caught_tab C)) 90 (regO (bodyOf f39) 9) false [(1, .any), (4, (.box [.val Riii])), (6, .any), (7, .any), (13, .any)] (ref34_Caught_S7 v) some = (ref34_Caught_r9 C v).eval fun y => some (ref34_Caught_S9 y) := by kernel_rfl
abbrev ref34_Caught_Y10 : Type := Int × Int × Bool × List Diii × Int × Int × Int × Int
def ref34_Caught_S10 (v : ref34_Caught_Y10) : St := ⟨[(1, .int .i64 v.1), (4, .ptr 0 0), (6, .ptr 1 0), (7, .ptr 2 0), (13, .int .i64 v.2.1), (38, .bool v.2.2.1)], [.cells [.fz Riii v.2.2.2.1], .cells [.int .i64 v.2.2.2.2.1, .int .i64 v.2.2.2.2.2.1], .cells [.int .i64 v.2.2.2.2.2.2.1, .int .i64 v.2.2.2.2.2.2.2]]⟩
def ref34_Caught_r10 (C : ref34_Caught_C) (v : ref34_Caught_Y9) : Dt ref34_Caught_Y10 := (Dt.ret (v.1, v.2.1, (decide (v.2.1 < (0:Int))), v.2.2.1, v.2.2.2.1, v.2.2.2.2.1, v.2.2.2.2.2.1, v.2.2.2.2.2.2))
theorem ref34_Caught_g10 (C : ref34_Caught_C) (v : ref34_Caught_Y9) : treg tysT (orc (ref34_Caught_tab C)) 90 (regO (bodyOf f39) 10) false [(1, .any), (4, (.box [.val Riii])), (6, .any), (7, .any), (13, .any), (38, .any)] (ref34_Caught_S9 v) some = (ref34_Caught_r10 C v).eval fun y => some (ref34_Caught_S10 y) := by kernel_rfl
def ref34_Caught_r11 (C : ref34_Caught_C) (v : ref34_Caught_Y10) : Dt ref34_Caught_Y3 := (Dt.ret ((6:Int), ([] : List Di), ([] : List Di)))
theorem ref34_Caught_g11 (C : ref34_Caught_C) (v : ref34_Caught_Y10) : treg tysT (orc (ref34_Caught_tab C)) 90 (regO (bodyOf f39) 11) false [(8, (.own Ri)), (9, (.own Ri)), (10, .any)] (ref34_Caught_S10 v) some = (ref34_Caught_r11 C v).eval fun y => some (ref34_Caught_S3 y) := by kernel_rfl
abbrev ref34_Caught_Y12 : Type := Int × Int × List Diii × Int × Int × List Diiii
def ref34_Caught_S12 (v : ref34_Caught_Y12) : St := ⟨[(1, .int .i64 v.1), (4, .ptr 0 0), (7, .ptr 1 0), (13, .int .i64 v.2.1), (14, .rs 2)], [.cells [.fz Riii v.2.2.1], .cells [.int .i64 v.2.2.2.1, .int .i64 v.2.2.2.2.1], .rows Riiii v.2.2.2.2.2]⟩
def ref34_Caught_r12 (C : ref34_Caught_C) (v : ref34_Caught_Y10) : Dt ref34_Caught_Y12 := (Dt.bnd (C.2.2.2.2.1 ((v.2.2.2.1, ()), (v.1, ()), (v.2.2.2.2.1, v.2.2.2.2.2.1, ()), ())) fun r1 => (Dt.ret (v.1, v.2.1, v.2.2.2.1, v.2.2.2.2.2.2.1, v.2.2.2.2.2.2.2, r1)))
theorem ref34_Caught_g12 (C : ref34_Caught_C) (v : ref34_Caught_Y10) : treg tysT (orc (ref34_Caught_tab C)) 90 (regO (bodyOf f39) 12) false [(1, .any), (4, (.box [.val Riii])), (7, .any), (13, .any), (14, (.own Riiii))] (ref34_Caught_S10 v) some = (ref34_Caught_r12 C v).eval fun y => some (ref34_Caught_S12 y) := by kernel_rfl
abbrev ref34_Caught_Y13 : Type := Int × Int × List Diii × Int × Int × List Diiii × List Di × List Di
def ref34_Caught_S13 (v : ref34_Caught_Y13) : St := ⟨[(1, .int .i64 v.1), (4, .ptr 0 0), (7, .ptr 1 0), (13, .int .i64 v.2.1), (14, .rs 2), (15, .rs 3), (16, .rs 4)], [.cells [.fz Riii v.2.2.1], .cells [.int .i64 v.2.2.2.1, .int .i64 v.2.2.2.2.1], .rows Riiii v.2.2.2.2.2.1, .rows Ri v.2.2.2.2.2.2.1, .rows Ri v.2.2.2.2.2.2.2]⟩
def ref34_Caught_r13 (C : ref34_Caught_C) (v : ref34_Caught_Y12) : Dt ref34_Caught_Y13 := (Dt.ret (v.1, v.2.1, v.2.2.1, v.2.2.2.1, v.2.2.2.2.1, v.2.2.2.2.2, ([] : List Di), ([] : List Di)))
theorem ref34_Caught_g13 (C : ref34_Caught_C) (v : ref34_Caught_Y12) : treg tysT (orc (ref34_Caught_tab C)) 90 (regO (bodyOf f39) 13) false [(1, .any), (4, (.box [.val Riii])), (7, .any), (13, .any), (14, (.own Riiii)), (15, (.own Ri)), (16, (.own Ri))] (ref34_Caught_S12 v) some = (ref34_Caught_r13 C v).eval fun y => some (ref34_Caught_S13 y) := by kernel_rfl
abbrev ref34_Caught_Y14 : Type := Int × Int × Int × List Diii × Int × Int × List Diiii × List Di × List Di
def ref34_Caught_S14 (v : ref34_Caught_Y14) : St := ⟨[(1, .int .i64 v.1), (4, .ptr 0 0), (7, .ptr 1 0), (13, .int .i64 v.2.1), (14, .rs 2), (15, .rs 3), (16, .rs 4), (17, .int .i64 v.2.2.1)], [.cells [.fz Riii v.2.2.2.1], .cells [.int .i64 v.2.2.2.2.1, .int .i64 v.2.2.2.2.2.1], .rows Riiii v.2.2.2.2.2.2.1, .rows Ri v.2.2.2.2.2.2.2.1, .rows Ri v.2.2.2.2.2.2.2.2]⟩
def ref34_Caught_r14 (C : ref34_Caught_C) (v : ref34_Caught_Y13) : Dt ref34_Caught_Y14 := (Dt.ret (v.1, v.2.1, (0:Int), v.2.2.1, v.2.2.2.1, v.2.2.2.2.1, v.2.2.2.2.2.1, v.2.2.2.2.2.2.1, v.2.2.2.2.2.2.2))
theorem ref34_Caught_g14 (C : ref34_Caught_C) (v : ref34_Caught_Y13) : treg tysT (orc (ref34_Caught_tab C)) 90 (regO (bodyOf f39) 14) false [(1, .any), (4, (.box [.val Riii])), (7, .any), (13, .any), (14, (.own Riiii)), (15, (.own Ri)), (16, (.own Ri)), (17, .any)] (ref34_Caught_S13 v) some = (ref34_Caught_r14 C v).eval fun y => some (ref34_Caught_S14 y) := by kernel_rfl
abbrev ref34_Caught_Y15 : Type := Int × Int × Int × Bool × List Diii × Int × Int × List Diiii × List Di × List Di
def ref34_Caught_S15 (v : ref34_Caught_Y15) : St := ⟨[(1, .int .i64 v.1), (4, .ptr 0 0), (7, .ptr 1 0), (13, .int .i64 v.2.1), (14, .rs 2), (15, .rs 3), (16, .rs 4), (17, .int .i64 v.2.2.1), (56, .bool v.2.2.2.1)], [.cells [.fz Riii v.2.2.2.2.1], .cells [.int .i64 v.2.2.2.2.2.1, .int .i64 v.2.2.2.2.2.2.1], .rows Riiii v.2.2.2.2.2.2.2.1, .rows Ri v.2.2.2.2.2.2.2.2.1, .rows Ri v.2.2.2.2.2.2.2.2.2]⟩
def ref34_Caught_r15 (C : ref34_Caught_C) (v : ref34_Caught_Y14) : Dt ref34_Caught_Y15 := (Dt.ite (decide (v.2.2.1 < (List.length v.2.2.2.2.2.2.1 : Int))) (Dt.ite (inB v.2.2.1 (List.length v.2.2.2.2.2.2.1)) (Dt.bnd (C.2.1 (((elt ziiii v.2.2.2.2.2.2.1 (v.2.2.1).toNat).1, (elt ziiii v.2.2.2.2.2.2.1 (v.2.2.1).toNat).2.1, ()), (v.2.2.2.2.1, v.2.2.2.2.2.1, ()), ())) fun r1 => (Dt.ret (v.1, v.2.1, v.2.2.1, (decide (r1 ≤ (0:Int))), v.2.2.2.1, v.2.2.2.2.1, v.2.2.2.2.2.1, v.2.2.2.2.2.2.1, v.2.2.2.2.2.2.2.1, v.2.2.2.2.2.2.2.2))) Dt.fail) (Dt.ret (v.1, v.2.1, v.2.2.1, false, v.2.2.2.1, v.2.2.2.2.1, v.2.2.2.2.2.1, v.2.2.2.2.2.2.1, v.2.2.2.2.2.2.2.1, v.2.2.2.2.2.2.2.2)))
theorem ref34_Caught_g15 (C : ref34_Caught_C) (v : ref34_Caught_Y14) : treg tysT (orc (ref34_Caught_tab C)) 90 (regO (bodyOf f39) 15) true [(1, .any), (4, (.box [.val Riii])), (7, .any), (13, .any), (14, (.own Riiii)), (15, (.own Ri)), (16, (.own Ri)), (17, .any), (56, .any)] (ref34_Caught_S14 v) some = (ref34_Caught_r15 C v).eval fun y => some (ref34_Caught_S15 y) := by kernel_rfl
abbrev ref34_Caught_Y17 : Type := Int × Int × Int × Int × List Diii × Int × Int × List Diiii × List Di × List Di
def ref34_Caught_S17 (v : ref34_Caught_Y17) : St := ⟨[(1, .int .i64 v.1), (4, .ptr 0 0), (7, .ptr 1 0), (13, .int .i64 v.2.1), (14, .rs 2), (15, .rs 3), (16, .rs 4), (17, .int .i64 v.2.2.1), (18, .int .i64 v.2.2.2.1)], [.cells [.fz Riii v.2.2.2.2.1], .cells [.int .i64 v.2.2.2.2.2.1, .int .i64 v.2.2.2.2.2.2.1], .rows Riiii v.2.2.2.2.2.2.2.1, .rows Ri v.2.2.2.2.2.2.2.2.1, .rows Ri v.2.2.2.2.2.2.2.2.2]⟩
def ref34_Caught_r17 (C : ref34_Caught_C) (v : ref34_Caught_Y15) : Dt ref34_Caught_Y17 := (Dt.ite (inB v.2.2.1 (List.length v.2.2.2.2.2.2.2.1)) (Dt.bnd (C.2.2.1 (((elt ziiii v.2.2.2.2.2.2.2.1 (v.2.2.1).toNat).1, (elt ziiii v.2.2.2.2.2.2.2.1 (v.2.2.1).toNat).2.1, (elt ziiii v.2.2.2.2.2.2.2.1 (v.2.2.1).toNat).2.2.1, (elt ziiii v.2.2.2.2.2.2.2.1 (v.2.2.1).toNat).2.2.2.1, ()), (v.1, ()), ())) fun r1 => (Dt.ret (v.1, v.2.1, v.2.2.1, r1, v.2.2.2.2.1, v.2.2.2.2.2.1, v.2.2.2.2.2.2.1, v.2.2.2.2.2.2.2.1, v.2.2.2.2.2.2.2.2.1, v.2.2.2.2.2.2.2.2.2))) Dt.fail)
theorem ref34_Caught_g17 (C : ref34_Caught_C) (v : ref34_Caught_Y15) : treg tysT (orc (ref34_Caught_tab C)) 90 (regO (bodyOf f39) 17) false [(1, .any), (4, (.box [.val Riii])), (7, .any), (13, .any), (14, (.own Riiii)), (15, (.own Ri)), (16, (.own Ri)), (17, .any), (18, .any)] (ref34_Caught_S15 v) some = (ref34_Caught_r17 C v).eval fun y => some (ref34_Caught_S17 y) := by kernel_rfl
abbrev ref34_Caught_Y18 : Type := Int × Int × Int × Int × Bool × List Diii × Int × Int × List Diiii × List Di × List Di
def ref34_Caught_S18 (v : ref34_Caught_Y18) : St := ⟨[(1, .int .i64 v.1), (4, .ptr 0 0), (7, .ptr 1 0), (13, .int .i64 v.2.1), (14, .rs 2), (15, .rs 3), (16, .rs 4), (17, .int .i64 v.2.2.1), (18, .int .i64 v.2.2.2.1), (79, .bool v.2.2.2.2.1)], [.cells [.fz Riii v.2.2.2.2.2.1], .cells [.int .i64 v.2.2.2.2.2.2.1, .int .i64 v.2.2.2.2.2.2.2.1], .rows Riiii v.2.2.2.2.2.2.2.2.1, .rows Ri v.2.2.2.2.2.2.2.2.2.1, .rows Ri v.2.2.2.2.2.2.2.2.2.2]⟩
def ref34_Caught_r18 (C : ref34_Caught_C) (v : ref34_Caught_Y17) : Dt ref34_Caught_Y18 := (Dt.ite (inB v.2.1 (List.length v.2.2.2.2.1)) (Dt.bnd (C.1 ((v.2.2.2.2.1, ()), (v.2.2.2.1, ()), ())) fun r1 => (Dt.ite (inB r1 (List.length v.2.2.2.2.1)) (Dt.ret (v.1, v.2.1, v.2.2.1, v.2.2.2.1, (decide ((elt ziii v.2.2.2.2.1 (v.2.1).toNat).2.2.1 > (elt ziii v.2.2.2.2.1 (r1).toNat).2.2.1)), v.2.2.2.2.1, v.2.2.2.2.2.1, v.2.2.2.2.2.2.1, v.2.2.2.2.2.2.2.1, v.2.2.2.2.2.2.2.2.1, v.2.2.2.2.2.2.2.2.2)) Dt.fail)) Dt.fail)
theorem ref34_Caught_g18 (C : ref34_Caught_C) (v : ref34_Caught_Y17) : treg tysT (orc (ref34_Caught_tab C)) 90 (regO (bodyOf f39) 18) true [(1, .any), (4, (.box [.val Riii])), (7, .any), (13, .any), (14, (.own Riiii)), (15, (.own Ri)), (16, (.own Ri)), (17, .any), (18, .any), (79, .any)] (ref34_Caught_S17 v) some = (ref34_Caught_r18 C v).eval fun y => some (ref34_Caught_S18 y) := by kernel_rfl
def ref34_Caught_r19 (C : ref34_Caught_C) (v : ref34_Caught_Y18) : Dt ref34_Caught_Y14 := (Dt.ite (apB (List.length v.2.2.2.2.2.2.2.2.2.1) (List.length ([(v.2.2.2.1, ())] : List Di))) (Dt.ret (v.1, v.2.1, v.2.2.1, v.2.2.2.2.2.1, v.2.2.2.2.2.2.1, v.2.2.2.2.2.2.2.1, v.2.2.2.2.2.2.2.2.1, (v.2.2.2.2.2.2.2.2.2.1 ++ ([(v.2.2.2.1, ())] : List Di)), v.2.2.2.2.2.2.2.2.2.2)) Dt.fail)
theorem ref34_Caught_g19 (C : ref34_Caught_C) (v : ref34_Caught_Y18) : treg tysT (orc (ref34_Caught_tab C)) 90 (regO (bodyOf f39) 19) false [(1, .any), (4, (.box [.val Riii])), (7, .any), (13, .any), (14, (.own Riiii)), (15, (.own Ri)), (16, (.own Ri)), (17, .any)] (ref34_Caught_S18 v) some = (ref34_Caught_r19 C v).eval fun y => some (ref34_Caught_S14 y) := by kernel_rfl
def ref34_Caught_r16 (C : ref34_Caught_C) (v : ref34_Caught_Y14) : Dt ref34_Caught_Y14 := (Dt.ret (v.1, v.2.1, (IntKind.wrap .i64 (v.2.2.1 + (1:Int))), v.2.2.2.1, v.2.2.2.2.1, v.2.2.2.2.2.1, v.2.2.2.2.2.2.1, v.2.2.2.2.2.2.2.1, v.2.2.2.2.2.2.2.2))
theorem ref34_Caught_g16 (C : ref34_Caught_C) (v : ref34_Caught_Y14) : treg tysT (orc (ref34_Caught_tab C)) 90 (regO (bodyOf f39) 16) false [(1, .any), (4, (.box [.val Riii])), (7, .any), (13, .any), (14, (.own Riiii)), (15, (.own Ri)), (16, (.own Ri)), (17, .any)] (ref34_Caught_S14 v) some = (ref34_Caught_r16 C v).eval fun y => some (ref34_Caught_S14 y) := by kernel_rfl
def ref34_Caught_J2  (d : Nat) (self1 : (Int × Int × Int × List Diii × Int × Int × List Diiii × List Di × List Di) → Option ref34_Caught_R) (z : Int × Int × Int × List Diii × Int × Int × List Diiii × List Di × List Di) : Option (ref34_Caught_R) :=
  (ref34_Caught_r16 (ref34_Caught_K d) z).eval fun y16 =>
  self1 y16
def ref34_Caught_r20 (C : ref34_Caught_C) (v : ref34_Caught_Y18) : Dt ref34_Caught_Y14 := (Dt.ite (apB (List.length v.2.2.2.2.2.2.2.2.2.2) (List.length ([(v.2.2.2.1, ())] : List Di))) (Dt.ret (v.1, v.2.1, v.2.2.1, v.2.2.2.2.2.1, v.2.2.2.2.2.2.1, v.2.2.2.2.2.2.2.1, v.2.2.2.2.2.2.2.2.1, v.2.2.2.2.2.2.2.2.2.1, (v.2.2.2.2.2.2.2.2.2.2 ++ ([(v.2.2.2.1, ())] : List Di)))) Dt.fail)
theorem ref34_Caught_g20 (C : ref34_Caught_C) (v : ref34_Caught_Y18) : treg tysT (orc (ref34_Caught_tab C)) 90 (regO (bodyOf f39) 20) false [(1, .any), (4, (.box [.val Riii])), (7, .any), (13, .any), (14, (.own Riiii)), (15, (.own Ri)), (16, (.own Ri)), (17, .any)] (ref34_Caught_S18 v) some = (ref34_Caught_r20 C v).eval fun y => some (ref34_Caught_S14 y) := by kernel_rfl
def ref34_Caught_r21 (C : ref34_Caught_C) (v : ref34_Caught_Y15) : Dt ref34_Caught_Y3 := (Dt.ret ((0:Int), v.2.2.2.2.2.2.2.2.1, v.2.2.2.2.2.2.2.2.2))
theorem ref34_Caught_g21 (C : ref34_Caught_C) (v : ref34_Caught_Y15) : treg tysT (orc (ref34_Caught_tab C)) 90 (regO (bodyOf f39) 21) false [(8, (.own Ri)), (9, (.own Ri)), (10, .any)] (ref34_Caught_S15 v) some = (ref34_Caught_r21 C v).eval fun y => some (ref34_Caught_S3 y) := by kernel_rfl
def ref34_Caught_L1 (d : Nat) (self1 : (Int × Int × Int × List Diii × Int × Int × List Diiii × List Di × List Di) → Option ref34_Caught_R) (x1 : Int × Int × Int × List Diii × Int × Int × List Diiii × List Di × List Di) : Option ref34_Caught_R :=
  (ref34_Caught_r15 (ref34_Caught_K d) x1).eval fun y15 =>
  bif y15.2.2.2.1 then ((ref34_Caught_r17 (ref34_Caught_K d) y15).eval fun y17 =>
  (ref34_Caught_r18 (ref34_Caught_K d) y17).eval fun y18 =>
  bif y18.2.2.2.2.1 then ((ref34_Caught_r19 (ref34_Caught_K d) y18).eval fun y19 =>
  ref34_Caught_J2 d self1 y19) else ((ref34_Caught_r20 (ref34_Caught_K d) y18).eval fun y20 =>
  ref34_Caught_J2 d self1 y20)) else ((ref34_Caught_r21 (ref34_Caught_K d) y15).eval fun y21 =>
  some (y21.2.1, y21.2.2, y21.1))
def F_ref34_Caught (d : Nat) (x : ref34_Caught_X) : Option ref34_Caught_R :=
  (ref34_Caught_r0 (ref34_Caught_K d) (x.1.1, x.2.1.1, x.2.2.1.1, x.2.2.1.2.1, x.2.2.2.1.1, x.2.2.2.1.2.1)).eval fun y0 =>
  (ref34_Caught_r1 (ref34_Caught_K d) y0).eval fun y1 =>
  (ref34_Caught_r2 (ref34_Caught_K d) y1).eval fun y2 =>
  bif y2.2.2.1 then ((ref34_Caught_r3 (ref34_Caught_K d) y2).eval fun y3 =>
  some (y3.2.1, y3.2.2, y3.1)) else ((ref34_Caught_r4 (ref34_Caught_K d) y2).eval fun y4 =>
  (ref34_Caught_r5 (ref34_Caught_K d) y4).eval fun y5 =>
  bif y5.2.2.1 then ((ref34_Caught_r6 (ref34_Caught_K d) y5).eval fun y6 =>
  some (y6.2.1, y6.2.2, y6.1)) else ((ref34_Caught_r7 (ref34_Caught_K d) y5).eval fun y7 =>
  bif y7.2.1 then ((ref34_Caught_r8 (ref34_Caught_K d) y7).eval fun y8 =>
  some (y8.2.1, y8.2.2, y8.1)) else ((ref34_Caught_r9 (ref34_Caught_K d) y7).eval fun y9 =>
  (ref34_Caught_r10 (ref34_Caught_K d) y9).eval fun y10 =>
  bif y10.2.2.1 then ((ref34_Caught_r11 (ref34_Caught_K d) y10).eval fun y11 =>
  some (y11.2.1, y11.2.2, y11.1)) else ((ref34_Caught_r12 (ref34_Caught_K d) y10).eval fun y12 =>
  (ref34_Caught_r13 (ref34_Caught_K d) y12).eval fun y13 =>
  (ref34_Caught_r14 (ref34_Caught_K d) y13).eval fun y14 =>
  iter (ref34_Caught_L1 d ) d y14))))
theorem ref34_Caught_cok (d : Nat) : COK prog (ref34_Caught_sp (F_ref34_Caught d)) := by
  have hm : prog.follows .mixedOrders = true := mixed
  have hT := tys
  have hC0 : OrcOK prog (orc (ref34_Caught_tab (ref34_Caught_K d))) := orc_ok (by
    intro S hS
    simp only [ref34_Caught_tab, List.mem_cons, List.not_mem_nil, or_false] at hS
    rcases hS with rfl | rfl | rfl | rfl | rfl | rfl
    · exact ref03_At_cok d
    · exact ref01_Compare_cok d
    · exact ref34_Other_cok d
    · exact ref03_Check_cok d
    · exact ref34_behind_cok d
    · exact ref01_Both_cok d)
  have hC : OrcOK prog (orc (ref34_Caught_tab (ref34_Caught_K d))) := hC0
  refine cok_of (c := bodyOf f39) (fn := f39) hT (by kernel_rfl) (by kernel_rfl) (by decide) fun x r h w0 φ0 Q hend => ?_
  replace h : F_ref34_Caught d x = some r := h
  unfold F_ref34_Caught at h
  show Run prog w0 φ0 90 (bodyOf f39) ⟨[(0, .agg [.fz Riii x.1.1]), (1, .int .i64 x.2.1.1), (2, .agg [.int .i64 x.2.2.1.1, .int .i64 x.2.2.1.2.1]), (3, .agg [.int .i64 x.2.2.2.1.1, .int .i64 x.2.2.2.1.2.1])], []⟩ Q
  refine run_seq ?_
  refine run_reg hm hT hC (ref34_Caught_g0 (ref34_Caught_K d) (x.1.1, x.2.1.1, x.2.2.1.1, x.2.2.1.2.1, x.2.2.2.1.1, x.2.2.2.1.2.1)) h ?_
  intro y0 h
  refine cn_then ?_
  refine run_seq ?_
  refine run_seq ?_
  refine run_reg hm hT hC (ref34_Caught_g1 (ref34_Caught_K d) y0) h ?_
  intro y1 h
  refine cn_then ?_
  refine run_seq ?_
  refine run_reg hm hT hC (ref34_Caught_g2 (ref34_Caught_K d) y1) h ?_
  intro y2 h
  refine cn_then ?_
  refine run_cond (v := y2.2.2.1) (by kernel_rfl) h ?_ ?_
  ·
    intro h
    refine run_seq ?_
    refine run_reg hm hT hC (ref34_Caught_g3 (ref34_Caught_K d) y2) h ?_
    intro y3 h
    refine cn_then ?_
    refine run_ret ?_
    refine cn_then_ret ?_
    cases h
    exact (hend _ (by kernel_rfl)).2
  ·
    intro h
    refine run_skip ?_
    refine cn_then ?_
    refine run_seq ?_
    refine run_seq ?_
    refine run_reg hm hT hC (ref34_Caught_g4 (ref34_Caught_K d) y2) h ?_
    intro y4 h
    refine cn_then ?_
    refine run_seq ?_
    refine run_reg hm hT hC (ref34_Caught_g5 (ref34_Caught_K d) y4) h ?_
    intro y5 h
    refine cn_then ?_
    refine run_cond (v := y5.2.2.1) (by kernel_rfl) h ?_ ?_
    ·
      intro h
      refine run_seq ?_
      refine run_reg hm hT hC (ref34_Caught_g6 (ref34_Caught_K d) y5) h ?_
      intro y6 h
      refine cn_then ?_
      refine run_ret ?_
      refine cn_then_ret ?_
      cases h
      exact (hend _ (by kernel_rfl)).2
    ·
      intro h
      refine run_skip ?_
      refine cn_then ?_
      refine run_seq ?_
      refine run_seq ?_
      refine run_reg hm hT hC (ref34_Caught_g7 (ref34_Caught_K d) y5) h ?_
      intro y7 h
      refine cn_then ?_
      refine run_cond (v := y7.2.1) (by kernel_rfl) h ?_ ?_
      ·
        intro h
        refine run_seq ?_
        refine run_reg hm hT hC (ref34_Caught_g8 (ref34_Caught_K d) y7) h ?_
        intro y8 h
        refine cn_then ?_
        refine run_ret ?_
        refine cn_then_ret ?_
        cases h
        exact (hend _ (by kernel_rfl)).2
      ·
        intro h
        refine run_skip ?_
        refine cn_then ?_
        refine run_seq ?_
        refine run_reg hm hT hC (ref34_Caught_g9 (ref34_Caught_K d) y7) h ?_
        intro y9 h
        refine cn_then ?_
        refine run_seq ?_
        refine run_seq ?_
        refine run_reg hm hT hC (ref34_Caught_g10 (ref34_Caught_K d) y9) h ?_
        intro y10 h
        refine cn_then ?_
        refine run_cond (v := y10.2.2.1) (by kernel_rfl) h ?_ ?_
        ·
          intro h
          refine run_seq ?_
          refine run_reg hm hT hC (ref34_Caught_g11 (ref34_Caught_K d) y10) h ?_
          intro y11 h
          refine cn_then ?_
          refine run_ret ?_
          refine cn_then_ret ?_
          cases h
          exact (hend _ (by kernel_rfl)).2
        ·
          intro h
          refine run_skip ?_
          refine cn_then ?_
          refine run_seq ?_
          refine run_reg hm hT hC (ref34_Caught_g12 (ref34_Caught_K d) y10) h ?_
          intro y12 h
          refine cn_then ?_
          refine run_seq ?_
          refine run_reg hm hT hC (ref34_Caught_g13 (ref34_Caught_K d) y12) h ?_
          intro y13 h
          refine cn_then ?_
          refine run_seq ?_
          refine run_seq ?_
          refine run_reg hm hT hC (ref34_Caught_g14 (ref34_Caught_K d) y13) h ?_
          intro y14 h
          refine cn_then ?_
          refine run_block ?_
          refine run_loop (G := iter (ref34_Caught_L1 d )) (S := (fun x1 => ⟨[(1, .int .i64 x1.1), (4, .ptr 0 0), (7, .ptr 1 0), (13, .int .i64 x1.2.1), (14, .rs 2), (15, .rs 3), (16, .rs 4), (17, .int .i64 x1.2.2.1)], [.cells [.fz Riii x1.2.2.2.1], .cells [.int .i64 x1.2.2.2.2.1, .int .i64 x1.2.2.2.2.2.1], .rows Riiii x1.2.2.2.2.2.2.1, .rows Ri x1.2.2.2.2.2.2.2.1, .rows Ri x1.2.2.2.2.2.2.2.2]⟩ : Int × Int × Int × List Diii × Int × Int × List Diiii × List Di × List Di → St)) (fun _ => rfl) ?_ d _ h
          intro n1 x1 h K1 hn1
          replace h : ref34_Caught_L1 d  (iter (ref34_Caught_L1 d ) n1) x1 = some r := h
          generalize iter (ref34_Caught_L1 d ) n1 = self1 at h hn1
          unfold ref34_Caught_L1 at h
          refine run_seq ?_
          refine run_seq ?_
          refine run_reg hm hT hC (ref34_Caught_g15 (ref34_Caught_K d) x1) h ?_
          intro y15 h
          refine cn_then ?_
          refine run_cond (v := y15.2.2.2.1) (by kernel_rfl) h ?_ ?_
          ·
            intro h
            refine run_skip ?_
            refine cn_then ?_
            refine run_join (r := r) (F := ref34_Caught_J2 d self1) (S := (fun z => ⟨[(1, .int .i64 z.1), (4, .ptr 0 0), (7, .ptr 1 0), (13, .int .i64 z.2.1), (14, .rs 2), (15, .rs 3), (16, .rs 4), (17, .int .i64 z.2.2.1)], [.cells [.fz Riii z.2.2.2.1], .cells [.int .i64 z.2.2.2.2.1, .int .i64 z.2.2.2.2.2.1], .rows Riiii z.2.2.2.2.2.2.1, .rows Ri z.2.2.2.2.2.2.2.1, .rows Ri z.2.2.2.2.2.2.2.2]⟩ : Int × Int × Int × List Diii × Int × Int × List Diiii × List Di × List Di → St)) ?_ ?_
            ·
              intro z h
              unfold ref34_Caught_J2 at h
              refine run_reg hm hT hC (ref34_Caught_g16 (ref34_Caught_K d) z) h ?_
              intro y16 h
              exact hn1 _ h
            intro hj2
            refine run_block ?_
            refine run_seq ?_
            refine run_reg hm hT hC (ref34_Caught_g17 (ref34_Caught_K d) y15) h ?_
            intro y17 h
            refine cn_then ?_
            refine run_seq ?_
            refine run_reg hm hT hC (ref34_Caught_g18 (ref34_Caught_K d) y17) h ?_
            intro y18 h
            refine cn_then ?_
            refine run_cond (v := y18.2.2.2.2.1) (by kernel_rfl) h ?_ ?_
            ·
              intro h
              refine run_reg hm hT hC (ref34_Caught_g19 (ref34_Caught_K d) y18) h ?_
              intro y19 h
              refine cn_blk ?_
              exact hj2 _ h
            ·
              intro h
              refine run_reg hm hT hC (ref34_Caught_g20 (ref34_Caught_K d) y18) h ?_
              intro y20 h
              refine cn_blk ?_
              exact hj2 _ h
          ·
            intro h
            refine run_exit ?_
            refine cn_then_exit ?_
            refine cn_then_exit ?_
            refine cn_blk_eq ?_
            refine cn_then ?_
            refine run_seq ?_
            refine run_reg hm hT hC (ref34_Caught_g21 (ref34_Caught_K d) y15) h ?_
            intro y21 h
            refine cn_then ?_
            refine run_ret ?_
            cases h
            exact (hend _ (by kernel_rfl)).2
end Go.Proofs.Ytmagihjfbembjaa
