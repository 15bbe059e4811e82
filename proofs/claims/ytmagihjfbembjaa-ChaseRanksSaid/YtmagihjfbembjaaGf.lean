/- Walks of the references; the orders agree; examples. -/
import Derived.Test.YtmagihjfbembjaaGe
set_option linter.unusedSimpArgs false
set_option linter.unusedVariables false
namespace Go.Proofs.Ytmagihjfbembjaa
open Go Go.Tx Go.Proofs.Try
set_option maxRecDepth 100000
set_option maxHeartbeats 0
abbrev ref01_Sign_ps : List Pk := [.row Rbuu true]
abbrev ref01_Sign_X : Type := Dbuu × Unit
abbrev ref01_Sign_R : Type := Int
def ref01_Sign_enc (r : ref01_Sign_R) : LV × List Ob := (.int .i64 r, [])
def ref01_Sign_sp (F : ref01_Sign_X → Option ref01_Sign_R) : Go.Tx.Spec := ⟨84, ref01_Sign_ps, ref01_Sign_R, F, ref01_Sign_enc⟩
abbrev ref01_Sign_C : Type := Unit
def ref01_Sign_K (_d : Nat) : ref01_Sign_C := ()
def ref01_Sign_tab (C : ref01_Sign_C) : List Go.Tx.Spec := []
abbrev ref01_Sign_Y0i : Type := Bool × Int × Int
def ref01_Sign_S0i (v : ref01_Sign_Y0i) : St := ⟨[(0, .agg [.bool v.1, .int .u64 v.2.1, .int .u64 v.2.2])], []⟩
abbrev ref01_Sign_Y0 : Type := Bool × Int × Int
def ref01_Sign_S0 (v : ref01_Sign_Y0) : St := ⟨[(1, .ptr 0 0)], [.cells [.bool v.1, .int .u64 v.2.1, .int .u64 v.2.2]]⟩
def ref01_Sign_r0 (C : ref01_Sign_C) (v : ref01_Sign_Y0i) : Dt ref01_Sign_Y0 := (Dt.ret (v.1, v.2.1, v.2.2))
theorem ref01_Sign_g0 (C : ref01_Sign_C) (v : ref01_Sign_Y0i) : treg tysT (orc (ref01_Sign_tab C)) 13 (regO (bodyOf f84) 0) false [(1, .any)] (ref01_Sign_S0i v) some = (ref01_Sign_r0 C v).eval fun y => some (ref01_Sign_S0 y) := by kernel_rfl
abbrev ref01_Sign_Y1 : Type := Bool × Bool × Int × Int
def ref01_Sign_S1 (v : ref01_Sign_Y1) : St := ⟨[(1, .ptr 0 0), (10, .bool v.1)], [.cells [.bool v.2.1, .int .u64 v.2.2.1, .int .u64 v.2.2.2]]⟩
def ref01_Sign_r1 (C : ref01_Sign_C) (v : ref01_Sign_Y0) : Dt ref01_Sign_Y1 := (Dt.ite (v.2.1 == (0:Int)) (Dt.ret ((v.2.2 == (0:Int)), v.1, v.2.1, v.2.2)) (Dt.ret (false, v.1, v.2.1, v.2.2)))
theorem ref01_Sign_g1 (C : ref01_Sign_C) (v : ref01_Sign_Y0) : treg tysT (orc (ref01_Sign_tab C)) 13 (regO (bodyOf f84) 1) false [(1, .any), (10, .any)] (ref01_Sign_S0 v) some = (ref01_Sign_r1 C v).eval fun y => some (ref01_Sign_S1 y) := by kernel_rfl
abbrev ref01_Sign_Y2 : Type := Int
def ref01_Sign_S2 (v : ref01_Sign_Y2) : St := ⟨[(2, .int .i64 v)], []⟩
def ref01_Sign_r2 (C : ref01_Sign_C) (v : ref01_Sign_Y1) : Dt ref01_Sign_Y2 := (Dt.ret (0:Int))
theorem ref01_Sign_g2 (C : ref01_Sign_C) (v : ref01_Sign_Y1) : treg tysT (orc (ref01_Sign_tab C)) 13 (regO (bodyOf f84) 2) false [(2, .any)] (ref01_Sign_S1 v) some = (ref01_Sign_r2 C v).eval fun y => some (ref01_Sign_S2 y) := by kernel_rfl
abbrev ref01_Sign_Y3 : Type := Bool
def ref01_Sign_S3 (v : ref01_Sign_Y3) : St := ⟨[(12, .bool v)], []⟩
def ref01_Sign_r3 (C : ref01_Sign_C) (v : ref01_Sign_Y1) : Dt ref01_Sign_Y3 := (Dt.ret v.2.1)
theorem ref01_Sign_g3 (C : ref01_Sign_C) (v : ref01_Sign_Y1) : treg tysT (orc (ref01_Sign_tab C)) 13 (regO (bodyOf f84) 3) false [(12, .any)] (ref01_Sign_S1 v) some = (ref01_Sign_r3 C v).eval fun y => some (ref01_Sign_S3 y) := by kernel_rfl
def ref01_Sign_r4 (C : ref01_Sign_C) (v : ref01_Sign_Y3) : Dt ref01_Sign_Y2 := (Dt.ret (-1:Int))
theorem ref01_Sign_g4 (C : ref01_Sign_C) (v : ref01_Sign_Y3) : treg tysT (orc (ref01_Sign_tab C)) 13 (regO (bodyOf f84) 4) false [(2, .any)] (ref01_Sign_S3 v) some = (ref01_Sign_r4 C v).eval fun y => some (ref01_Sign_S2 y) := by kernel_rfl
def ref01_Sign_r5 (C : ref01_Sign_C) (v : ref01_Sign_Y3) : Dt ref01_Sign_Y2 := (Dt.ret (1:Int))
theorem ref01_Sign_g5 (C : ref01_Sign_C) (v : ref01_Sign_Y3) : treg tysT (orc (ref01_Sign_tab C)) 13 (regO (bodyOf f84) 5) false [(2, .any)] (ref01_Sign_S3 v) some = (ref01_Sign_r5 C v).eval fun y => some (ref01_Sign_S2 y) := by kernel_rfl
def F_ref01_Sign (d : Nat) (x : ref01_Sign_X) : Option ref01_Sign_R :=
  (ref01_Sign_r0 (ref01_Sign_K d) (x.1.1, x.1.2.1, x.1.2.2.1)).eval fun y0 =>
  (ref01_Sign_r1 (ref01_Sign_K d) y0).eval fun y1 =>
  bif y1.1 then ((ref01_Sign_r2 (ref01_Sign_K d) y1).eval fun y2 =>
  some y2) else ((ref01_Sign_r3 (ref01_Sign_K d) y1).eval fun y3 =>
  bif y3 then ((ref01_Sign_r4 (ref01_Sign_K d) y3).eval fun y4 =>
  some y4) else ((ref01_Sign_r5 (ref01_Sign_K d) y3).eval fun y5 =>
  some y5))
theorem ref01_Sign_cok (d : Nat) : COK prog (ref01_Sign_sp (F_ref01_Sign d)) := by
  have hm : prog.follows .mixedOrders = true := mixed
  have hT := tys
  have hC0 : OrcOK prog (orc (ref01_Sign_tab (ref01_Sign_K d))) := orc_ok (by
    intro S hS
    simp only [ref01_Sign_tab, List.mem_cons, List.not_mem_nil, or_false] at hS
    all_goals first | cases hS | exact hS.elim)
  have hC : OrcOK prog (orc (ref01_Sign_tab (ref01_Sign_K d))) := hC0
  refine cok_of (c := bodyOf f84) (fn := f84) hT (by kernel_rfl) (by kernel_rfl) (by decide) fun x r h w0 φ0 Q hend => ?_
  replace h : F_ref01_Sign d x = some r := h
  unfold F_ref01_Sign at h
  show Run prog w0 φ0 13 (bodyOf f84) ⟨[(0, .agg [.bool x.1.1, .int .u64 x.1.2.1, .int .u64 x.1.2.2.1])], []⟩ Q
  refine run_seq ?_
  refine run_reg hm hT hC (ref01_Sign_g0 (ref01_Sign_K d) (x.1.1, x.1.2.1, x.1.2.2.1)) h ?_
  intro y0 h
  refine cn_then ?_
  refine run_seq ?_
  refine run_seq ?_
  refine run_reg hm hT hC (ref01_Sign_g1 (ref01_Sign_K d) y0) h ?_
  intro y1 h
  refine cn_then ?_
  refine run_cond (v := y1.1) (by kernel_rfl) h ?_ ?_
  ·
    intro h
    refine run_seq ?_
    refine run_reg hm hT hC (ref01_Sign_g2 (ref01_Sign_K d) y1) h ?_
    intro y2 h
    refine cn_then ?_
    refine run_ret ?_
    refine cn_then_ret ?_
    cases h
    exact (hend _ (by kernel_rfl)).2
  ·
    intro h
    refine run_skip ?_
    refine cn_then ?_
    refine run_seq ?_
    refine run_seq ?_
    refine run_reg hm hT hC (ref01_Sign_g3 (ref01_Sign_K d) y1) h ?_
    intro y3 h
    refine cn_then ?_
    refine run_cond (v := y3) (by kernel_rfl) h ?_ ?_
    ·
      intro h
      refine run_seq ?_
      refine run_reg hm hT hC (ref01_Sign_g4 (ref01_Sign_K d) y3) h ?_
      intro y4 h
      refine cn_then ?_
      refine run_ret ?_
      refine cn_then_ret ?_
      cases h
      exact (hend _ (by kernel_rfl)).2
    ·
      intro h
      refine run_skip ?_
      refine cn_then ?_
      refine run_seq ?_
      refine run_reg hm hT hC (ref01_Sign_g5 (ref01_Sign_K d) y3) h ?_
      intro y5 h
      refine cn_then ?_
      refine run_ret ?_
      cases h
      exact (hend _ (by kernel_rfl)).2
abbrev ref01_less_ps : List Pk := [.row Rbuu true, .row Rbuu true]
abbrev ref01_less_X : Type := Dbuu × Dbuu × Unit
abbrev ref01_less_R : Type := Int
def ref01_less_enc (r : ref01_less_R) : LV × List Ob := (.int .i64 r, [])
def ref01_less_sp (F : ref01_less_X → Option ref01_less_R) : Go.Tx.Spec := ⟨85, ref01_less_ps, ref01_less_R, F, ref01_less_enc⟩
abbrev ref01_less_C : Type := Unit
def ref01_less_K (_d : Nat) : ref01_less_C := ()
def ref01_less_tab (C : ref01_less_C) : List Go.Tx.Spec := []
abbrev ref01_less_Y0i : Type := Bool × Int × Int × Bool × Int × Int
def ref01_less_S0i (v : ref01_less_Y0i) : St := ⟨[(0, .agg [.bool v.1, .int .u64 v.2.1, .int .u64 v.2.2.1]), (1, .agg [.bool v.2.2.2.1, .int .u64 v.2.2.2.2.1, .int .u64 v.2.2.2.2.2])], []⟩
abbrev ref01_less_Y0 : Type := Bool × Int × Int × Bool × Int × Int
def ref01_less_S0 (v : ref01_less_Y0) : St := ⟨[(2, .ptr 0 0), (3, .ptr 1 0)], [.cells [.bool v.1, .int .u64 v.2.1, .int .u64 v.2.2.1], .cells [.bool v.2.2.2.1, .int .u64 v.2.2.2.2.1, .int .u64 v.2.2.2.2.2]]⟩
def ref01_less_r0 (C : ref01_less_C) (v : ref01_less_Y0i) : Dt ref01_less_Y0 := (Dt.ret (v.1, v.2.1, v.2.2.1, v.2.2.2.1, v.2.2.2.2.1, v.2.2.2.2.2))
theorem ref01_less_g0 (C : ref01_less_C) (v : ref01_less_Y0i) : treg tysT (orc (ref01_less_tab C)) 25 (regO (bodyOf f85) 0) false [(2, .any), (3, .any)] (ref01_less_S0i v) some = (ref01_less_r0 C v).eval fun y => some (ref01_less_S0 y) := by kernel_rfl
abbrev ref01_less_Y1 : Type := Bool × Bool × Int × Int × Bool × Int × Int
def ref01_less_S1 (v : ref01_less_Y1) : St := ⟨[(2, .ptr 0 0), (3, .ptr 1 0), (9, .bool v.1)], [.cells [.bool v.2.1, .int .u64 v.2.2.1, .int .u64 v.2.2.2.1], .cells [.bool v.2.2.2.2.1, .int .u64 v.2.2.2.2.2.1, .int .u64 v.2.2.2.2.2.2]]⟩
def ref01_less_r1 (C : ref01_less_C) (v : ref01_less_Y0) : Dt ref01_less_Y1 := (Dt.ret ((v.2.1 != v.2.2.2.2.1), v.1, v.2.1, v.2.2.1, v.2.2.2.1, v.2.2.2.2.1, v.2.2.2.2.2))
theorem ref01_less_g1 (C : ref01_less_C) (v : ref01_less_Y0) : treg tysT (orc (ref01_less_tab C)) 25 (regO (bodyOf f85) 1) false [(2, .any), (3, .any), (9, .any)] (ref01_less_S0 v) some = (ref01_less_r1 C v).eval fun y => some (ref01_less_S1 y) := by kernel_rfl
abbrev ref01_less_Y2 : Type := Bool
def ref01_less_S2 (v : ref01_less_Y2) : St := ⟨[(14, .bool v)], []⟩
def ref01_less_r2 (C : ref01_less_C) (v : ref01_less_Y1) : Dt ref01_less_Y2 := (Dt.ret (decide (v.2.2.1 < v.2.2.2.2.2.1)))
theorem ref01_less_g2 (C : ref01_less_C) (v : ref01_less_Y1) : treg tysT (orc (ref01_less_tab C)) 25 (regO (bodyOf f85) 2) false [(14, .any)] (ref01_less_S1 v) some = (ref01_less_r2 C v).eval fun y => some (ref01_less_S2 y) := by kernel_rfl
abbrev ref01_less_Y3 : Type := Int
def ref01_less_S3 (v : ref01_less_Y3) : St := ⟨[(4, .int .i64 v)], []⟩
def ref01_less_r3 (C : ref01_less_C) (v : ref01_less_Y2) : Dt ref01_less_Y3 := (Dt.ret (-1:Int))
theorem ref01_less_g3 (C : ref01_less_C) (v : ref01_less_Y2) : treg tysT (orc (ref01_less_tab C)) 25 (regO (bodyOf f85) 3) false [(4, .any)] (ref01_less_S2 v) some = (ref01_less_r3 C v).eval fun y => some (ref01_less_S3 y) := by kernel_rfl
def ref01_less_r4 (C : ref01_less_C) (v : ref01_less_Y2) : Dt ref01_less_Y3 := (Dt.ret (1:Int))
theorem ref01_less_g4 (C : ref01_less_C) (v : ref01_less_Y2) : treg tysT (orc (ref01_less_tab C)) 25 (regO (bodyOf f85) 4) false [(4, .any)] (ref01_less_S2 v) some = (ref01_less_r4 C v).eval fun y => some (ref01_less_S3 y) := by kernel_rfl
abbrev ref01_less_Y5 : Type := Bool × Bool × Int × Int × Bool × Int × Int
def ref01_less_S5 (v : ref01_less_Y5) : St := ⟨[(2, .ptr 0 0), (3, .ptr 1 0), (19, .bool v.1)], [.cells [.bool v.2.1, .int .u64 v.2.2.1, .int .u64 v.2.2.2.1], .cells [.bool v.2.2.2.2.1, .int .u64 v.2.2.2.2.2.1, .int .u64 v.2.2.2.2.2.2]]⟩
def ref01_less_r5 (C : ref01_less_C) (v : ref01_less_Y1) : Dt ref01_less_Y5 := (Dt.ret ((v.2.2.2.1 != v.2.2.2.2.2.2), v.2.1, v.2.2.1, v.2.2.2.1, v.2.2.2.2.1, v.2.2.2.2.2.1, v.2.2.2.2.2.2))
theorem ref01_less_g5 (C : ref01_less_C) (v : ref01_less_Y1) : treg tysT (orc (ref01_less_tab C)) 25 (regO (bodyOf f85) 5) false [(2, .any), (3, .any), (19, .any)] (ref01_less_S1 v) some = (ref01_less_r5 C v).eval fun y => some (ref01_less_S5 y) := by kernel_rfl
abbrev ref01_less_Y6 : Type := Bool
def ref01_less_S6 (v : ref01_less_Y6) : St := ⟨[(24, .bool v)], []⟩
def ref01_less_r6 (C : ref01_less_C) (v : ref01_less_Y5) : Dt ref01_less_Y6 := (Dt.ret (decide (v.2.2.2.1 < v.2.2.2.2.2.2)))
theorem ref01_less_g6 (C : ref01_less_C) (v : ref01_less_Y5) : treg tysT (orc (ref01_less_tab C)) 25 (regO (bodyOf f85) 6) false [(24, .any)] (ref01_less_S5 v) some = (ref01_less_r6 C v).eval fun y => some (ref01_less_S6 y) := by kernel_rfl
def ref01_less_r7 (C : ref01_less_C) (v : ref01_less_Y6) : Dt ref01_less_Y3 := (Dt.ret (-1:Int))
theorem ref01_less_g7 (C : ref01_less_C) (v : ref01_less_Y6) : treg tysT (orc (ref01_less_tab C)) 25 (regO (bodyOf f85) 7) false [(4, .any)] (ref01_less_S6 v) some = (ref01_less_r7 C v).eval fun y => some (ref01_less_S3 y) := by kernel_rfl
def ref01_less_r8 (C : ref01_less_C) (v : ref01_less_Y6) : Dt ref01_less_Y3 := (Dt.ret (1:Int))
theorem ref01_less_g8 (C : ref01_less_C) (v : ref01_less_Y6) : treg tysT (orc (ref01_less_tab C)) 25 (regO (bodyOf f85) 8) false [(4, .any)] (ref01_less_S6 v) some = (ref01_less_r8 C v).eval fun y => some (ref01_less_S3 y) := by kernel_rfl
def ref01_less_r9 (C : ref01_less_C) (v : ref01_less_Y5) : Dt ref01_less_Y3 := (Dt.ret (0:Int))
theorem ref01_less_g9 (C : ref01_less_C) (v : ref01_less_Y5) : treg tysT (orc (ref01_less_tab C)) 25 (regO (bodyOf f85) 9) false [(4, .any)] (ref01_less_S5 v) some = (ref01_less_r9 C v).eval fun y => some (ref01_less_S3 y) := by kernel_rfl
def F_ref01_less (d : Nat) (x : ref01_less_X) : Option ref01_less_R :=
  (ref01_less_r0 (ref01_less_K d) (x.1.1, x.1.2.1, x.1.2.2.1, x.2.1.1, x.2.1.2.1, x.2.1.2.2.1)).eval fun y0 =>
  (ref01_less_r1 (ref01_less_K d) y0).eval fun y1 =>
  bif y1.1 then ((ref01_less_r2 (ref01_less_K d) y1).eval fun y2 =>
  bif y2 then ((ref01_less_r3 (ref01_less_K d) y2).eval fun y3 =>
  some y3) else ((ref01_less_r4 (ref01_less_K d) y2).eval fun y4 =>
  some y4)) else ((ref01_less_r5 (ref01_less_K d) y1).eval fun y5 =>
  bif y5.1 then ((ref01_less_r6 (ref01_less_K d) y5).eval fun y6 =>
  bif y6 then ((ref01_less_r7 (ref01_less_K d) y6).eval fun y7 =>
  some y7) else ((ref01_less_r8 (ref01_less_K d) y6).eval fun y8 =>
  some y8)) else ((ref01_less_r9 (ref01_less_K d) y5).eval fun y9 =>
  some y9))
theorem ref01_less_cok (d : Nat) : COK prog (ref01_less_sp (F_ref01_less d)) := by
  have hm : prog.follows .mixedOrders = true := mixed
  have hT := tys
  have hC0 : OrcOK prog (orc (ref01_less_tab (ref01_less_K d))) := orc_ok (by
    intro S hS
    simp only [ref01_less_tab, List.mem_cons, List.not_mem_nil, or_false] at hS
    all_goals first | cases hS | exact hS.elim)
  have hC : OrcOK prog (orc (ref01_less_tab (ref01_less_K d))) := hC0
  refine cok_of (c := bodyOf f85) (fn := f85) hT (by kernel_rfl) (by kernel_rfl) (by decide) fun x r h w0 φ0 Q hend => ?_
  replace h : F_ref01_less d x = some r := h
  unfold F_ref01_less at h
  show Run prog w0 φ0 25 (bodyOf f85) ⟨[(0, .agg [.bool x.1.1, .int .u64 x.1.2.1, .int .u64 x.1.2.2.1]), (1, .agg [.bool x.2.1.1, .int .u64 x.2.1.2.1, .int .u64 x.2.1.2.2.1])], []⟩ Q
  refine run_seq ?_
  refine run_reg hm hT hC (ref01_less_g0 (ref01_less_K d) (x.1.1, x.1.2.1, x.1.2.2.1, x.2.1.1, x.2.1.2.1, x.2.1.2.2.1)) h ?_
  intro y0 h
  refine cn_then ?_
  refine run_seq ?_
  refine run_seq ?_
  refine run_reg hm hT hC (ref01_less_g1 (ref01_less_K d) y0) h ?_
  intro y1 h
  refine cn_then ?_
  refine run_cond (v := y1.1) (by kernel_rfl) h ?_ ?_
  ·
    intro h
    refine run_seq ?_
    refine run_seq ?_
    refine run_reg hm hT hC (ref01_less_g2 (ref01_less_K d) y1) h ?_
    intro y2 h
    refine cn_then ?_
    refine run_cond (v := y2) (by kernel_rfl) h ?_ ?_
    ·
      intro h
      refine run_seq ?_
      refine run_reg hm hT hC (ref01_less_g3 (ref01_less_K d) y2) h ?_
      intro y3 h
      refine cn_then ?_
      refine run_ret ?_
      refine cn_then_ret ?_
      refine cn_then_ret ?_
      cases h
      exact (hend _ (by kernel_rfl)).2
    ·
      intro h
      refine run_skip ?_
      refine cn_then ?_
      refine run_seq ?_
      refine run_reg hm hT hC (ref01_less_g4 (ref01_less_K d) y2) h ?_
      intro y4 h
      refine cn_then ?_
      refine run_ret ?_
      refine cn_then_ret ?_
      cases h
      exact (hend _ (by kernel_rfl)).2
  ·
    intro h
    refine run_skip ?_
    refine cn_then ?_
    refine run_seq ?_
    refine run_seq ?_
    refine run_reg hm hT hC (ref01_less_g5 (ref01_less_K d) y1) h ?_
    intro y5 h
    refine cn_then ?_
    refine run_cond (v := y5.1) (by kernel_rfl) h ?_ ?_
    ·
      intro h
      refine run_seq ?_
      refine run_seq ?_
      refine run_reg hm hT hC (ref01_less_g6 (ref01_less_K d) y5) h ?_
      intro y6 h
      refine cn_then ?_
      refine run_cond (v := y6) (by kernel_rfl) h ?_ ?_
      ·
        intro h
        refine run_seq ?_
        refine run_reg hm hT hC (ref01_less_g7 (ref01_less_K d) y6) h ?_
        intro y7 h
        refine cn_then ?_
        refine run_ret ?_
        refine cn_then_ret ?_
        refine cn_then_ret ?_
        cases h
        exact (hend _ (by kernel_rfl)).2
      ·
        intro h
        refine run_skip ?_
        refine cn_then ?_
        refine run_seq ?_
        refine run_reg hm hT hC (ref01_less_g8 (ref01_less_K d) y6) h ?_
        intro y8 h
        refine cn_then ?_
        refine run_ret ?_
        refine cn_then_ret ?_
        cases h
        exact (hend _ (by kernel_rfl)).2
    ·
      intro h
      refine run_skip ?_
      refine cn_then ?_
      refine run_seq ?_
      refine run_reg hm hT hC (ref01_less_g9 (ref01_less_K d) y5) h ?_
      intro y9 h
      refine cn_then ?_
      refine run_ret ?_
      cases h
      exact (hend _ (by kernel_rfl)).2
abbrev ref01_Compare_ps : List Pk := [.row Rii true, .row Rii true]
abbrev ref01_Compare_X : Type := Dii × Dii × Unit
abbrev ref01_Compare_R : Type := Int
def ref01_Compare_enc (r : ref01_Compare_R) : LV × List Ob := (.int .i64 r, [])
def ref01_Compare_sp (F : ref01_Compare_X → Option ref01_Compare_R) : Go.Tx.Spec := ⟨47, ref01_Compare_ps, ref01_Compare_R, F, ref01_Compare_enc⟩
abbrev ref01_Compare_C : Type := (ref01_Product_X → Option ref01_Product_R) × (ref01_Sign_X → Option ref01_Sign_R) × (ref01_less_X → Option ref01_less_R) × Unit
def ref01_Compare_K (d : Nat) : ref01_Compare_C := (F_ref01_Product d, F_ref01_Sign d, F_ref01_less d, ())
def ref01_Compare_tab (C : ref01_Compare_C) : List Go.Tx.Spec := [ref01_Product_sp C.1, ref01_Sign_sp C.2.1, ref01_less_sp C.2.2.1]
abbrev ref01_Compare_Y0i : Type := Int × Int × Int × Int
def ref01_Compare_S0i (v : ref01_Compare_Y0i) : St := ⟨[(0, .agg [.int .i64 v.1, .int .i64 v.2.1]), (1, .agg [.int .i64 v.2.2.1, .int .i64 v.2.2.2])], []⟩
abbrev ref01_Compare_Y0 : Type := Int × Int × Int × Int
def ref01_Compare_S0 (v : ref01_Compare_Y0) : St := ⟨[(2, .ptr 0 0), (3, .ptr 1 0)], [.cells [.int .i64 v.1, .int .i64 v.2.1], .cells [.int .i64 v.2.2.1, .int .i64 v.2.2.2]]⟩
def ref01_Compare_r0 (C : ref01_Compare_C) (v : ref01_Compare_Y0i) : Dt ref01_Compare_Y0 := (Dt.ret (v.1, v.2.1, v.2.2.1, v.2.2.2))
theorem ref01_Compare_g0 (C : ref01_Compare_C) (v : ref01_Compare_Y0i) : treg tysT (orc (ref01_Compare_tab C)) 36 (regO (bodyOf f47) 0) false [(2, .any), (3, .any)] (ref01_Compare_S0i v) some = (ref01_Compare_r0 C v).eval fun y => some (ref01_Compare_S0 y) := by kernel_rfl
abbrev ref01_Compare_Y1 : Type := Bool × Int × Int × Bool × Int × Int
def ref01_Compare_S1 (v : ref01_Compare_Y1) : St := ⟨[(5, .ptr 0 0), (6, .ptr 1 0)], [.cells [.bool v.1, .int .u64 v.2.1, .int .u64 v.2.2.1], .cells [.bool v.2.2.2.1, .int .u64 v.2.2.2.2.1, .int .u64 v.2.2.2.2.2]]⟩
def ref01_Compare_r1 (C : ref01_Compare_C) (v : ref01_Compare_Y0) : Dt ref01_Compare_Y1 := (Dt.bnd (C.1 ((v.1, ()), (v.2.2.2, ()), ())) fun r1 => (Dt.bnd (C.1 ((v.2.2.1, ()), (v.2.1, ()), ())) fun r2 => (Dt.ret (r1.1, r1.2.1, r1.2.2, r2.1, r2.2.1, r2.2.2))))
theorem ref01_Compare_g1 (C : ref01_Compare_C) (v : ref01_Compare_Y0) : treg tysT (orc (ref01_Compare_tab C)) 36 (regO (bodyOf f47) 1) true [(5, .any), (6, .any)] (ref01_Compare_S0 v) some = (ref01_Compare_r1 C v).eval fun y => some (ref01_Compare_S1 y) := by kernel_rfl
abbrev ref01_Compare_Y2 : Type := Bool × Bool × Int × Int × Bool × Int × Int
def ref01_Compare_S2 (v : ref01_Compare_Y2) : St := ⟨[(5, .ptr 0 0), (6, .ptr 1 0), (21, .bool v.1)], [.cells [.bool v.2.1, .int .u64 v.2.2.1, .int .u64 v.2.2.2.1], .cells [.bool v.2.2.2.2.1, .int .u64 v.2.2.2.2.2.1, .int .u64 v.2.2.2.2.2.2]]⟩
def ref01_Compare_r2 (C : ref01_Compare_C) (v : ref01_Compare_Y1) : Dt ref01_Compare_Y2 := (Dt.bnd (C.2.1 ((v.1, v.2.1, v.2.2.1, ()), ())) fun r1 => (Dt.bnd (C.2.1 ((v.2.2.2.1, v.2.2.2.2.1, v.2.2.2.2.2, ()), ())) fun r2 => (Dt.ret ((r1 != r2), v.1, v.2.1, v.2.2.1, v.2.2.2.1, v.2.2.2.2.1, v.2.2.2.2.2))))
theorem ref01_Compare_g2 (C : ref01_Compare_C) (v : ref01_Compare_Y1) : treg tysT (orc (ref01_Compare_tab C)) 36 (regO (bodyOf f47) 2) true [(5, .any), (6, .any), (21, .any)] (ref01_Compare_S1 v) some = (ref01_Compare_r2 C v).eval fun y => some (ref01_Compare_S2 y) := by kernel_rfl
abbrev ref01_Compare_Y3 : Type := Bool
def ref01_Compare_S3 (v : ref01_Compare_Y3) : St := ⟨[(26, .bool v)], []⟩
def ref01_Compare_r3 (C : ref01_Compare_C) (v : ref01_Compare_Y2) : Dt ref01_Compare_Y3 := (Dt.bnd (C.2.1 ((v.2.1, v.2.2.1, v.2.2.2.1, ()), ())) fun r1 => (Dt.bnd (C.2.1 ((v.2.2.2.2.1, v.2.2.2.2.2.1, v.2.2.2.2.2.2, ()), ())) fun r2 => (Dt.ret (decide (r1 < r2)))))
theorem ref01_Compare_g3 (C : ref01_Compare_C) (v : ref01_Compare_Y2) : treg tysT (orc (ref01_Compare_tab C)) 36 (regO (bodyOf f47) 3) true [(26, .any)] (ref01_Compare_S2 v) some = (ref01_Compare_r3 C v).eval fun y => some (ref01_Compare_S3 y) := by kernel_rfl
abbrev ref01_Compare_Y4 : Type := Int
def ref01_Compare_S4 (v : ref01_Compare_Y4) : St := ⟨[(4, .int .i64 v)], []⟩
def ref01_Compare_r4 (C : ref01_Compare_C) (v : ref01_Compare_Y3) : Dt ref01_Compare_Y4 := (Dt.ret (-1:Int))
theorem ref01_Compare_g4 (C : ref01_Compare_C) (v : ref01_Compare_Y3) : treg tysT (orc (ref01_Compare_tab C)) 36 (regO (bodyOf f47) 4) false [(4, .any)] (ref01_Compare_S3 v) some = (ref01_Compare_r4 C v).eval fun y => some (ref01_Compare_S4 y) := by kernel_rfl
def ref01_Compare_r5 (C : ref01_Compare_C) (v : ref01_Compare_Y3) : Dt ref01_Compare_Y4 := (Dt.ret (1:Int))
theorem ref01_Compare_g5 (C : ref01_Compare_C) (v : ref01_Compare_Y3) : treg tysT (orc (ref01_Compare_tab C)) 36 (regO (bodyOf f47) 5) false [(4, .any)] (ref01_Compare_S3 v) some = (ref01_Compare_r5 C v).eval fun y => some (ref01_Compare_S4 y) := by kernel_rfl
abbrev ref01_Compare_Y6 : Type := Bool × Bool × Int × Int × Bool × Int × Int
def ref01_Compare_S6 (v : ref01_Compare_Y6) : St := ⟨[(5, .ptr 0 0), (6, .ptr 1 0), (29, .bool v.1)], [.cells [.bool v.2.1, .int .u64 v.2.2.1, .int .u64 v.2.2.2.1], .cells [.bool v.2.2.2.2.1, .int .u64 v.2.2.2.2.2.1, .int .u64 v.2.2.2.2.2.2]]⟩
def ref01_Compare_r6 (C : ref01_Compare_C) (v : ref01_Compare_Y2) : Dt ref01_Compare_Y6 := (Dt.bnd (C.2.1 ((v.2.1, v.2.2.1, v.2.2.2.1, ()), ())) fun r1 => (Dt.ret ((decide (r1 < (0:Int))), v.2.1, v.2.2.1, v.2.2.2.1, v.2.2.2.2.1, v.2.2.2.2.2.1, v.2.2.2.2.2.2)))
theorem ref01_Compare_g6 (C : ref01_Compare_C) (v : ref01_Compare_Y2) : treg tysT (orc (ref01_Compare_tab C)) 36 (regO (bodyOf f47) 6) false [(5, .any), (6, .any), (29, .any)] (ref01_Compare_S2 v) some = (ref01_Compare_r6 C v).eval fun y => some (ref01_Compare_S6 y) := by kernel_rfl
def ref01_Compare_r7 (C : ref01_Compare_C) (v : ref01_Compare_Y6) : Dt ref01_Compare_Y4 := (Dt.bnd (C.2.2.1 ((v.2.2.2.2.1, v.2.2.2.2.2.1, v.2.2.2.2.2.2, ()), (v.2.1, v.2.2.1, v.2.2.2.1, ()), ())) fun r1 => (Dt.ret r1))
theorem ref01_Compare_g7 (C : ref01_Compare_C) (v : ref01_Compare_Y6) : treg tysT (orc (ref01_Compare_tab C)) 36 (regO (bodyOf f47) 7) false [(4, .any)] (ref01_Compare_S6 v) some = (ref01_Compare_r7 C v).eval fun y => some (ref01_Compare_S4 y) := by kernel_rfl
def ref01_Compare_r8 (C : ref01_Compare_C) (v : ref01_Compare_Y6) : Dt ref01_Compare_Y4 := (Dt.bnd (C.2.2.1 ((v.2.1, v.2.2.1, v.2.2.2.1, ()), (v.2.2.2.2.1, v.2.2.2.2.2.1, v.2.2.2.2.2.2, ()), ())) fun r1 => (Dt.ret r1))
theorem ref01_Compare_g8 (C : ref01_Compare_C) (v : ref01_Compare_Y6) : treg tysT (orc (ref01_Compare_tab C)) 36 (regO (bodyOf f47) 8) false [(4, .any)] (ref01_Compare_S6 v) some = (ref01_Compare_r8 C v).eval fun y => some (ref01_Compare_S4 y) := by kernel_rfl
def F_ref01_Compare (d : Nat) (x : ref01_Compare_X) : Option ref01_Compare_R :=
  (ref01_Compare_r0 (ref01_Compare_K d) (x.1.1, x.1.2.1, x.2.1.1, x.2.1.2.1)).eval fun y0 =>
  (ref01_Compare_r1 (ref01_Compare_K d) y0).eval fun y1 =>
  (ref01_Compare_r2 (ref01_Compare_K d) y1).eval fun y2 =>
  bif y2.1 then ((ref01_Compare_r3 (ref01_Compare_K d) y2).eval fun y3 =>
  bif y3 then ((ref01_Compare_r4 (ref01_Compare_K d) y3).eval fun y4 =>
  some y4) else ((ref01_Compare_r5 (ref01_Compare_K d) y3).eval fun y5 =>
  some y5)) else ((ref01_Compare_r6 (ref01_Compare_K d) y2).eval fun y6 =>
  bif y6.1 then ((ref01_Compare_r7 (ref01_Compare_K d) y6).eval fun y7 =>
  some y7) else ((ref01_Compare_r8 (ref01_Compare_K d) y6).eval fun y8 =>
  some y8))
theorem ref01_Compare_cok (d : Nat) : COK prog (ref01_Compare_sp (F_ref01_Compare d)) := by
  have hm : prog.follows .mixedOrders = true := mixed
  have hT := tys
  have hC0 : OrcOK prog (orc (ref01_Compare_tab (ref01_Compare_K d))) := orc_ok (by
    intro S hS
    simp only [ref01_Compare_tab, List.mem_cons, List.not_mem_nil, or_false] at hS
    rcases hS with rfl | rfl | rfl
    · exact ref01_Product_cok d
    · exact ref01_Sign_cok d
    · exact ref01_less_cok d)
  have hC : OrcOK prog (orc (ref01_Compare_tab (ref01_Compare_K d))) := hC0
  refine cok_of (c := bodyOf f47) (fn := f47) hT (by kernel_rfl) (by kernel_rfl) (by decide) fun x r h w0 φ0 Q hend => ?_
  replace h : F_ref01_Compare d x = some r := h
  unfold F_ref01_Compare at h
  show Run prog w0 φ0 36 (bodyOf f47) ⟨[(0, .agg [.int .i64 x.1.1, .int .i64 x.1.2.1]), (1, .agg [.int .i64 x.2.1.1, .int .i64 x.2.1.2.1])], []⟩ Q
  refine run_seq ?_
  refine run_reg hm hT hC (ref01_Compare_g0 (ref01_Compare_K d) (x.1.1, x.1.2.1, x.2.1.1, x.2.1.2.1)) h ?_
  intro y0 h
  refine cn_then ?_
  refine run_seq ?_
  refine run_reg hm hT hC (ref01_Compare_g1 (ref01_Compare_K d) y0) h ?_
  intro y1 h
  refine cn_then ?_
  refine run_seq ?_
  refine run_seq ?_
  refine run_reg hm hT hC (ref01_Compare_g2 (ref01_Compare_K d) y1) h ?_
  intro y2 h
  refine cn_then ?_
  refine run_cond (v := y2.1) (by kernel_rfl) h ?_ ?_
  ·
    intro h
    refine run_seq ?_
    refine run_seq ?_
    refine run_reg hm hT hC (ref01_Compare_g3 (ref01_Compare_K d) y2) h ?_
    intro y3 h
    refine cn_then ?_
    refine run_cond (v := y3) (by kernel_rfl) h ?_ ?_
    ·
      intro h
      refine run_seq ?_
      refine run_reg hm hT hC (ref01_Compare_g4 (ref01_Compare_K d) y3) h ?_
      intro y4 h
      refine cn_then ?_
      refine run_ret ?_
      refine cn_then_ret ?_
      refine cn_then_ret ?_
      cases h
      exact (hend _ (by kernel_rfl)).2
    ·
      intro h
      refine run_skip ?_
      refine cn_then ?_
      refine run_seq ?_
      refine run_reg hm hT hC (ref01_Compare_g5 (ref01_Compare_K d) y3) h ?_
      intro y5 h
      refine cn_then ?_
      refine run_ret ?_
      refine cn_then_ret ?_
      cases h
      exact (hend _ (by kernel_rfl)).2
  ·
    intro h
    refine run_skip ?_
    refine cn_then ?_
    refine run_seq ?_
    refine run_seq ?_
    refine run_reg hm hT hC (ref01_Compare_g6 (ref01_Compare_K d) y2) h ?_
    intro y6 h
    refine cn_then ?_
    refine run_cond (v := y6.1) (by kernel_rfl) h ?_ ?_
    ·
      intro h
      refine run_seq ?_
      refine run_reg hm hT hC (ref01_Compare_g7 (ref01_Compare_K d) y6) h ?_
      intro y7 h
      refine cn_then ?_
      refine run_ret ?_
      refine cn_then_ret ?_
      cases h
      exact (hend _ (by kernel_rfl)).2
    ·
      intro h
      refine run_skip ?_
      refine cn_then ?_
      refine run_seq ?_
      refine run_reg hm hT hC (ref01_Compare_g8 (ref01_Compare_K d) y6) h ?_
      intro y8 h
      refine cn_then ?_
      refine run_ret ?_
      cases h
      exact (hend _ (by kernel_rfl)).2
abbrev ref02_Met_X : Type := Diii × Diii × Unit
abbrev ref02_Met_R : Type := Int × Int
abbrev ref02_Met_C : Type := (ref01_Make_X → Option ref01_Make_R) × Unit
def ref02_Met_K (d : Nat) : ref02_Met_C := (F_ref01_Make d, ())
abbrev ref02_Met_Y0i : Type := Int × Int × Int × Int × Int × Int
abbrev ref02_Met_Y0 : Type := Int × Int × Int × Int × Int × Int × Int × Int
def ref02_Met_r0 (C : ref02_Met_C) (v : ref02_Met_Y0i) : Dt ref02_Met_Y0 := (Dt.ret (v.1, v.2.1, v.2.2.1, v.2.2.2.1, v.2.2.2.2.1, v.2.2.2.2.2, (0:Int), (0:Int)))
abbrev ref02_Met_Y1 : Type := Int × Int × Int × Int
def ref02_Met_r1 (C : ref02_Met_C) (v : ref02_Met_Y0) : Dt ref02_Met_Y1 := (Dt.bnd (C.1 (((IntKind.wrap .i64 (v.2.1 - v.2.2.2.2.1)), ()), ((IntKind.wrap .i64 (v.2.2.2.2.2.1 - v.2.2.1)), ()), ())) fun r1 => (Dt.ret (v.2.2.2.2.2.2.1, v.2.2.2.2.2.2.2, r1.1, r1.2.1)))
abbrev ref02_Met_Y2 : Type := Int × Int
def ref02_Met_r2 (C : ref02_Met_C) (v : ref02_Met_Y1) : Dt ref02_Met_Y2 := (Dt.ret (v.2.2.1, v.2.2.2))
def F_ref02_Met (d : Nat) (x : ref02_Met_X) : Option ref02_Met_R :=
  (ref02_Met_r0 (ref02_Met_K d) (x.1.1, x.1.2.1, x.1.2.2.1, x.2.1.1, x.2.1.2.1, x.2.1.2.2.1)).eval fun y0 =>
  (ref02_Met_r1 (ref02_Met_K d) y0).eval fun y1 =>
  (ref02_Met_r2 (ref02_Met_K d) y1).eval fun y2 =>
  some y2
abbrev ref04_Before_X : Type := Diiii × Diiii × Unit
abbrev ref04_Before_R : Type := Bool
abbrev ref04_Before_C : Type := (ref01_Compare_X → Option ref01_Compare_R) × Unit
def ref04_Before_K (d : Nat) : ref04_Before_C := (F_ref01_Compare d, ())
abbrev ref04_Before_Y0i : Type := Int × Int × Int × Int × Int × Int × Int × Int
abbrev ref04_Before_Y0 : Type := Int × Int × Int × Int × Int × Int × Int × Int
def ref04_Before_r0 (C : ref04_Before_C) (v : ref04_Before_Y0i) : Dt ref04_Before_Y0 := (Dt.ret (v.1, v.2.1, v.2.2.1, v.2.2.2.1, v.2.2.2.2.1, v.2.2.2.2.2.1, v.2.2.2.2.2.2.1, v.2.2.2.2.2.2.2))
abbrev ref04_Before_Y1 : Type := Int × Int × Int × Int × Int × Int × Int × Int × Int
def ref04_Before_r1 (C : ref04_Before_C) (v : ref04_Before_Y0) : Dt ref04_Before_Y1 := (Dt.bnd (C.1 ((v.1, v.2.1, ()), (v.2.2.2.2.1, v.2.2.2.2.2.1, ()), ())) fun r1 => (Dt.ret (r1, v.1, v.2.1, v.2.2.1, v.2.2.2.1, v.2.2.2.2.1, v.2.2.2.2.2.1, v.2.2.2.2.2.2.1, v.2.2.2.2.2.2.2)))
abbrev ref04_Before_Y2 : Type := Int × Bool × Int × Int × Int × Int × Int × Int × Int × Int
def ref04_Before_r2 (C : ref04_Before_C) (v : ref04_Before_Y1) : Dt ref04_Before_Y2 := (Dt.ret (v.1, (v.1 != (0:Int)), v.2.1, v.2.2.1, v.2.2.2.1, v.2.2.2.2.1, v.2.2.2.2.2.1, v.2.2.2.2.2.2.1, v.2.2.2.2.2.2.2.1, v.2.2.2.2.2.2.2.2))
abbrev ref04_Before_Y3 : Type := Bool
def ref04_Before_r3 (C : ref04_Before_C) (v : ref04_Before_Y2) : Dt ref04_Before_Y3 := (Dt.ret (decide (v.1 < (0:Int))))
abbrev ref04_Before_Y4 : Type := Bool × Int × Int × Int × Int × Int × Int × Int × Int
def ref04_Before_r4 (C : ref04_Before_C) (v : ref04_Before_Y2) : Dt ref04_Before_Y4 := (Dt.ret ((v.2.2.2.2.1 != v.2.2.2.2.2.2.2.2.1), v.2.2.1, v.2.2.2.1, v.2.2.2.2.1, v.2.2.2.2.2.1, v.2.2.2.2.2.2.1, v.2.2.2.2.2.2.2.1, v.2.2.2.2.2.2.2.2.1, v.2.2.2.2.2.2.2.2.2))
def ref04_Before_r5 (C : ref04_Before_C) (v : ref04_Before_Y4) : Dt ref04_Before_Y3 := (Dt.ret (decide (v.2.2.2.1 < v.2.2.2.2.2.2.2.1)))
def ref04_Before_r6 (C : ref04_Before_C) (v : ref04_Before_Y4) : Dt ref04_Before_Y3 := (Dt.ret (decide (v.2.2.2.2.1 < v.2.2.2.2.2.2.2.2)))
def F_ref04_Before (d : Nat) (x : ref04_Before_X) : Option ref04_Before_R :=
  (ref04_Before_r0 (ref04_Before_K d) (x.1.1, x.1.2.1, x.1.2.2.1, x.1.2.2.2.1, x.2.1.1, x.2.1.2.1, x.2.1.2.2.1, x.2.1.2.2.2.1)).eval fun y0 =>
  (ref04_Before_r1 (ref04_Before_K d) y0).eval fun y1 =>
  (ref04_Before_r2 (ref04_Before_K d) y1).eval fun y2 =>
  bif y2.2.1 then ((ref04_Before_r3 (ref04_Before_K d) y2).eval fun y3 =>
  some y3) else ((ref04_Before_r4 (ref04_Before_K d) y2).eval fun y4 =>
  bif y4.1 then ((ref04_Before_r5 (ref04_Before_K d) y4).eval fun y5 =>
  some y5) else ((ref04_Before_r6 (ref04_Before_K d) y4).eval fun y6 =>
  some y6))
abbrev ref04_Pairs_X : Type := DLiiiE × Unit
abbrev ref04_Pairs_R : Type := List Diiii
abbrev ref04_Pairs_C : Type := (ref02_Met_X → Option ref02_Met_R) × (ref04_Before_X → Option ref04_Before_R) × Unit
def ref04_Pairs_K (d : Nat) : ref04_Pairs_C := (F_ref02_Met d, F_ref04_Before d, ())
abbrev ref04_Pairs_Y0i : Type := List Diii
abbrev ref04_Pairs_Y0 : Type := List Diii
def ref04_Pairs_r0 (C : ref04_Pairs_C) (v : ref04_Pairs_Y0i) : Dt ref04_Pairs_Y0 := (Dt.ret v)
abbrev ref04_Pairs_Y1 : Type := List Diii × List Diiii
def ref04_Pairs_r1 (C : ref04_Pairs_C) (v : ref04_Pairs_Y0) : Dt ref04_Pairs_Y1 := (Dt.ret (v, ([] : List Diiii)))
abbrev ref04_Pairs_Y2 : Type := Int × List Diii × List Diiii
def ref04_Pairs_r2 (C : ref04_Pairs_C) (v : ref04_Pairs_Y1) : Dt ref04_Pairs_Y2 := (Dt.ret ((0:Int), v.1, v.2))
abbrev ref04_Pairs_Y3 : Type := Int × Bool × List Diii × List Diiii
def ref04_Pairs_r3 (C : ref04_Pairs_C) (v : ref04_Pairs_Y2) : Dt ref04_Pairs_Y3 := (Dt.ret (v.1, (decide (v.1 < (List.length v.2.1 : Int))), v.2.1, v.2.2))
abbrev ref04_Pairs_Y5 : Type := Int × Int × List Diii × List Diiii
def ref04_Pairs_r5 (C : ref04_Pairs_C) (v : ref04_Pairs_Y3) : Dt ref04_Pairs_Y5 := (Dt.ret (v.1, (IntKind.wrap .i64 (v.1 + (1:Int))), v.2.2.1, v.2.2.2))
abbrev ref04_Pairs_Y6 : Type := Int × Int × Bool × List Diii × List Diiii
def ref04_Pairs_r6 (C : ref04_Pairs_C) (v : ref04_Pairs_Y5) : Dt ref04_Pairs_Y6 := (Dt.ret (v.1, v.2.1, (decide (v.2.1 < (List.length v.2.2.1 : Int))), v.2.2.1, v.2.2.2))
abbrev ref04_Pairs_Y8 : Type := Int × Int × List Diii × List Diiii × Int × Int × Int × Int × Int × Int
def ref04_Pairs_r8 (C : ref04_Pairs_C) (v : ref04_Pairs_Y6) : Dt ref04_Pairs_Y8 := (Dt.ite (inB v.1 (List.length v.2.2.2.1)) (Dt.ite (inB v.2.1 (List.length v.2.2.2.1)) (Dt.ret (v.1, v.2.1, v.2.2.2.1, v.2.2.2.2, (elt ziii v.2.2.2.1 (v.1).toNat).1, (elt ziii v.2.2.2.1 (v.1).toNat).2.1, (elt ziii v.2.2.2.1 (v.1).toNat).2.2.1, (elt ziii v.2.2.2.1 (v.2.1).toNat).1, (elt ziii v.2.2.2.1 (v.2.1).toNat).2.1, (elt ziii v.2.2.2.1 (v.2.1).toNat).2.2.1)) Dt.fail) Dt.fail)
abbrev ref04_Pairs_Y9 : Type := Int × Int × Bool × List Diii × List Diiii × Int × Int × Int × Int × Int × Int
def ref04_Pairs_r9 (C : ref04_Pairs_C) (v : ref04_Pairs_Y8) : Dt ref04_Pairs_Y9 := (Dt.ret (v.1, v.2.1, (v.2.2.2.2.2.2.1 != v.2.2.2.2.2.2.2.2.2), v.2.2.1, v.2.2.2.1, v.2.2.2.2.1, v.2.2.2.2.2.1, v.2.2.2.2.2.2.1, v.2.2.2.2.2.2.2.1, v.2.2.2.2.2.2.2.2.1, v.2.2.2.2.2.2.2.2.2))
def ref04_Pairs_r10 (C : ref04_Pairs_C) (v : ref04_Pairs_Y9) : Dt ref04_Pairs_Y5 := (Dt.bnd (C.1 ((v.2.2.2.2.2.1, v.2.2.2.2.2.2.1, v.2.2.2.2.2.2.2.1, ()), (v.2.2.2.2.2.2.2.2.1, v.2.2.2.2.2.2.2.2.2.1, v.2.2.2.2.2.2.2.2.2.2, ()), ())) fun r1 => (Dt.ite (apB (List.length v.2.2.2.2.1) (List.length ([(r1.1, r1.2, v.2.2.2.2.2.1, v.2.2.2.2.2.2.2.2.1, ())] : List Diiii))) (Dt.ret (v.1, v.2.1, v.2.2.2.1, (v.2.2.2.2.1 ++ ([(r1.1, r1.2, v.2.2.2.2.2.1, v.2.2.2.2.2.2.2.2.1, ())] : List Diiii)))) Dt.fail))
def ref04_Pairs_r7 (C : ref04_Pairs_C) (v : ref04_Pairs_Y5) : Dt ref04_Pairs_Y5 := (Dt.ret (v.1, (IntKind.wrap .i64 (v.2.1 + (1:Int))), v.2.2.1, v.2.2.2))
def ref04_Pairs_J3  (d : Nat) (self1 : (Int × List Diii × List Diiii) → Option ref04_Pairs_R) (self2 : (Int × Int × List Diii × List Diiii) → Option ref04_Pairs_R) (z : Int × Int × List Diii × List Diiii) : Option (ref04_Pairs_R) :=
  (ref04_Pairs_r7 (ref04_Pairs_K d) z).eval fun y7 =>
  self2 y7
def ref04_Pairs_r4 (C : ref04_Pairs_C) (v : ref04_Pairs_Y6) : Dt ref04_Pairs_Y2 := (Dt.ret ((IntKind.wrap .i64 (v.1 + (1:Int))), v.2.2.2.1, v.2.2.2.2))
def ref04_Pairs_L2 (d : Nat) (self1 : (Int × List Diii × List Diiii) → Option ref04_Pairs_R) (self2 : (Int × Int × List Diii × List Diiii) → Option ref04_Pairs_R) (x2 : Int × Int × List Diii × List Diiii) : Option ref04_Pairs_R :=
  (ref04_Pairs_r6 (ref04_Pairs_K d) x2).eval fun y6 =>
  bif y6.2.2.1 then ((ref04_Pairs_r8 (ref04_Pairs_K d) y6).eval fun y8 =>
  (ref04_Pairs_r9 (ref04_Pairs_K d) y8).eval fun y9 =>
  bif y9.2.2.1 then ((ref04_Pairs_r10 (ref04_Pairs_K d) y9).eval fun y10 =>
  ref04_Pairs_J3 d self1 self2 y10) else (ref04_Pairs_J3 d self1 self2 (y9.1, y9.2.1, y9.2.2.2.1, y9.2.2.2.2.1))) else ((ref04_Pairs_r4 (ref04_Pairs_K d) y6).eval fun y4 =>
  self1 y4)
abbrev ref04_Pairs_Y11 : Type := Int × List Diiii
def ref04_Pairs_r11 (C : ref04_Pairs_C) (v : ref04_Pairs_Y3) : Dt ref04_Pairs_Y11 := (Dt.ret ((1:Int), v.2.2.2))
abbrev ref04_Pairs_Y12 : Type := Int × Bool × List Diiii
def ref04_Pairs_r12 (C : ref04_Pairs_C) (v : ref04_Pairs_Y11) : Dt ref04_Pairs_Y12 := (Dt.ret (v.1, (decide (v.1 < (List.length v.2 : Int))), v.2))
abbrev ref04_Pairs_Y14 : Type := Int × Int × List Diiii
def ref04_Pairs_r14 (C : ref04_Pairs_C) (v : ref04_Pairs_Y12) : Dt ref04_Pairs_Y14 := (Dt.ret (v.1, v.1, v.2.2))
abbrev ref04_Pairs_Y15 : Type := Int × Int × Bool × List Diiii
def ref04_Pairs_r15 (C : ref04_Pairs_C) (v : ref04_Pairs_Y14) : Dt ref04_Pairs_Y15 := (Dt.ite (decide (v.2.1 > (0:Int))) (Dt.ite (inB v.2.1 (List.length v.2.2)) (Dt.ite (inB (IntKind.wrap .i64 (v.2.1 - (1:Int))) (List.length v.2.2)) (Dt.bnd (C.2.1 (((elt ziiii v.2.2 (v.2.1).toNat).1, (elt ziiii v.2.2 (v.2.1).toNat).2.1, (elt ziiii v.2.2 (v.2.1).toNat).2.2.1, (elt ziiii v.2.2 (v.2.1).toNat).2.2.2.1, ()), ((elt ziiii v.2.2 ((IntKind.wrap .i64 (v.2.1 - (1:Int)))).toNat).1, (elt ziiii v.2.2 ((IntKind.wrap .i64 (v.2.1 - (1:Int)))).toNat).2.1, (elt ziiii v.2.2 ((IntKind.wrap .i64 (v.2.1 - (1:Int)))).toNat).2.2.1, (elt ziiii v.2.2 ((IntKind.wrap .i64 (v.2.1 - (1:Int)))).toNat).2.2.2.1, ()), ())) fun r1 => (Dt.ret (v.1, v.2.1, r1, v.2.2))) Dt.fail) Dt.fail) (Dt.ret (v.1, v.2.1, false, v.2.2)))
def ref04_Pairs_r17 (C : ref04_Pairs_C) (v : ref04_Pairs_Y15) : Dt ref04_Pairs_Y14 := (Dt.ite (inB (IntKind.wrap .i64 (v.2.1 - (1:Int))) (List.length v.2.2.2)) (Dt.ite (inB v.2.1 (List.length v.2.2.2)) (Dt.ite (inB v.2.1 (List.length v.2.2.2)) (Dt.ite (inB (IntKind.wrap .i64 (v.2.1 - (1:Int))) (List.length (List.set v.2.2.2 (v.2.1).toNat ((elt ziiii v.2.2.2 ((IntKind.wrap .i64 (v.2.1 - (1:Int)))).toNat).1, (elt ziiii v.2.2.2 ((IntKind.wrap .i64 (v.2.1 - (1:Int)))).toNat).2.1, (elt ziiii v.2.2.2 ((IntKind.wrap .i64 (v.2.1 - (1:Int)))).toNat).2.2.1, (elt ziiii v.2.2.2 ((IntKind.wrap .i64 (v.2.1 - (1:Int)))).toNat).2.2.2.1, ())))) (Dt.ret (v.1, v.2.1, (List.set (List.set v.2.2.2 (v.2.1).toNat ((elt ziiii v.2.2.2 ((IntKind.wrap .i64 (v.2.1 - (1:Int)))).toNat).1, (elt ziiii v.2.2.2 ((IntKind.wrap .i64 (v.2.1 - (1:Int)))).toNat).2.1, (elt ziiii v.2.2.2 ((IntKind.wrap .i64 (v.2.1 - (1:Int)))).toNat).2.2.1, (elt ziiii v.2.2.2 ((IntKind.wrap .i64 (v.2.1 - (1:Int)))).toNat).2.2.2.1, ())) ((IntKind.wrap .i64 (v.2.1 - (1:Int)))).toNat ((elt ziiii v.2.2.2 (v.2.1).toNat).1, (elt ziiii v.2.2.2 (v.2.1).toNat).2.1, (elt ziiii v.2.2.2 (v.2.1).toNat).2.2.1, (elt ziiii v.2.2.2 (v.2.1).toNat).2.2.2.1, ())))) Dt.fail) Dt.fail) Dt.fail) Dt.fail)
def ref04_Pairs_r16 (C : ref04_Pairs_C) (v : ref04_Pairs_Y14) : Dt ref04_Pairs_Y14 := (Dt.ret (v.1, (IntKind.wrap .i64 (v.2.1 - (1:Int))), v.2.2))
def ref04_Pairs_r13 (C : ref04_Pairs_C) (v : ref04_Pairs_Y15) : Dt ref04_Pairs_Y11 := (Dt.ret ((IntKind.wrap .i64 (v.1 + (1:Int))), v.2.2.2))
def ref04_Pairs_L5 (d : Nat) (self4 : (Int × List Diiii) → Option ref04_Pairs_R) (self5 : (Int × Int × List Diiii) → Option ref04_Pairs_R) (x5 : Int × Int × List Diiii) : Option ref04_Pairs_R :=
  (ref04_Pairs_r15 (ref04_Pairs_K d) x5).eval fun y15 =>
  bif y15.2.2.1 then ((ref04_Pairs_r17 (ref04_Pairs_K d) y15).eval fun y17 =>
  (ref04_Pairs_r16 (ref04_Pairs_K d) y17).eval fun y16 =>
  self5 y16) else ((ref04_Pairs_r13 (ref04_Pairs_K d) y15).eval fun y13 =>
  self4 y13)
abbrev ref04_Pairs_Y18 : Type := List Diiii
def ref04_Pairs_r18 (C : ref04_Pairs_C) (v : ref04_Pairs_Y12) : Dt ref04_Pairs_Y18 := (Dt.ret v.2.2)
def ref04_Pairs_L4 (d : Nat) (self4 : (Int × List Diiii) → Option ref04_Pairs_R) (x4 : Int × List Diiii) : Option ref04_Pairs_R :=
  (ref04_Pairs_r12 (ref04_Pairs_K d) x4).eval fun y12 =>
  bif y12.2.1 then ((ref04_Pairs_r14 (ref04_Pairs_K d) y12).eval fun y14 =>
  iter (ref04_Pairs_L5 d self4) d y14) else ((ref04_Pairs_r18 (ref04_Pairs_K d) y12).eval fun y18 =>
  some y18)
def ref04_Pairs_L1 (d : Nat) (self1 : (Int × List Diii × List Diiii) → Option ref04_Pairs_R) (x1 : Int × List Diii × List Diiii) : Option ref04_Pairs_R :=
  (ref04_Pairs_r3 (ref04_Pairs_K d) x1).eval fun y3 =>
  bif y3.2.1 then ((ref04_Pairs_r5 (ref04_Pairs_K d) y3).eval fun y5 =>
  iter (ref04_Pairs_L2 d self1) d y5) else ((ref04_Pairs_r11 (ref04_Pairs_K d) y3).eval fun y11 =>
  iter (ref04_Pairs_L4 d ) d y11)
def F_ref04_Pairs (d : Nat) (x : ref04_Pairs_X) : Option ref04_Pairs_R :=
  (ref04_Pairs_r0 (ref04_Pairs_K d) x.1.1).eval fun y0 =>
  (ref04_Pairs_r1 (ref04_Pairs_K d) y0).eval fun y1 =>
  (ref04_Pairs_r2 (ref04_Pairs_K d) y1).eval fun y2 =>
  iter (ref04_Pairs_L1 d ) d y2
abbrev ref04_Same_ps : List Pk := [.row RLiiiiE false, .row RLiiiiE false]
abbrev ref04_Same_X : Type := DLiiiiE × DLiiiiE × Unit
abbrev ref04_Same_R : Type := Bool
def ref04_Same_enc (r : ref04_Same_R) : LV × List Ob := (.bool r, [])
def ref04_Same_sp (F : ref04_Same_X → Option ref04_Same_R) : Go.Tx.Spec := ⟨34, ref04_Same_ps, ref04_Same_R, F, ref04_Same_enc⟩
abbrev ref04_Same_C : Type := Unit
def ref04_Same_K (_d : Nat) : ref04_Same_C := ()
def ref04_Same_tab (C : ref04_Same_C) : List Go.Tx.Spec := []
abbrev ref04_Same_Y0i : Type := List Diiii × List Diiii
def ref04_Same_S0i (v : ref04_Same_Y0i) : St := ⟨[(0, .fz Riiii v.1), (1, .fz Riiii v.2)], []⟩
def ref04_Same_r0 (C : ref04_Same_C) (v : ref04_Same_Y0i) : Dt ref04_Same_Y0i := (Dt.ret (v.1, v.2))
theorem ref04_Same_g0 (C : ref04_Same_C) (v : ref04_Same_Y0i) : treg tysT (orc (ref04_Same_tab C)) 26 (regO (bodyOf f34) 0) false [(0, (.val Riiii)), (1, (.val Riiii))] (ref04_Same_S0i v) some = (ref04_Same_r0 C v).eval fun y => some (ref04_Same_S0i y) := by kernel_rfl
abbrev ref04_Same_Y1 : Type := List Diiii × List Diiii × Bool
def ref04_Same_S1 (v : ref04_Same_Y1) : St := ⟨[(0, .fz Riiii v.1), (1, .fz Riiii v.2.1), (10, .bool v.2.2)], []⟩
def ref04_Same_r1 (C : ref04_Same_C) (v : ref04_Same_Y0i) : Dt ref04_Same_Y1 := (Dt.ret (v.1, v.2, ((List.length v.1 : Int) != (List.length v.2 : Int))))
theorem ref04_Same_g1 (C : ref04_Same_C) (v : ref04_Same_Y0i) : treg tysT (orc (ref04_Same_tab C)) 26 (regO (bodyOf f34) 1) false [(0, (.val Riiii)), (1, (.val Riiii)), (10, .any)] (ref04_Same_S0i v) some = (ref04_Same_r1 C v).eval fun y => some (ref04_Same_S1 y) := by kernel_rfl
abbrev ref04_Same_Y2 : Type := Bool
def ref04_Same_S2 (v : ref04_Same_Y2) : St := ⟨[(4, .bool v)], []⟩
def ref04_Same_r2 (C : ref04_Same_C) (v : ref04_Same_Y1) : Dt ref04_Same_Y2 := (Dt.ret false)
theorem ref04_Same_g2 (C : ref04_Same_C) (v : ref04_Same_Y1) : treg tysT (orc (ref04_Same_tab C)) 26 (regO (bodyOf f34) 2) false [(4, .any)] (ref04_Same_S1 v) some = (ref04_Same_r2 C v).eval fun y => some (ref04_Same_S2 y) := by kernel_rfl
abbrev ref04_Same_Y3 : Type := List Diiii × List Diiii × Int
def ref04_Same_S3 (v : ref04_Same_Y3) : St := ⟨[(0, .fz Riiii v.1), (1, .fz Riiii v.2.1), (5, .int .i64 v.2.2)], []⟩
def ref04_Same_r3 (C : ref04_Same_C) (v : ref04_Same_Y1) : Dt ref04_Same_Y3 := (Dt.ret (v.1, v.2.1, (0:Int)))
theorem ref04_Same_g3 (C : ref04_Same_C) (v : ref04_Same_Y1) : treg tysT (orc (ref04_Same_tab C)) 26 (regO (bodyOf f34) 3) false [(0, (.val Riiii)), (1, (.val Riiii)), (5, .any)] (ref04_Same_S1 v) some = (ref04_Same_r3 C v).eval fun y => some (ref04_Same_S3 y) := by kernel_rfl
abbrev ref04_Same_Y4 : Type := List Diiii × List Diiii × Int × Bool
def ref04_Same_S4 (v : ref04_Same_Y4) : St := ⟨[(0, .fz Riiii v.1), (1, .fz Riiii v.2.1), (5, .int .i64 v.2.2.1), (14, .bool v.2.2.2)], []⟩
def ref04_Same_r4 (C : ref04_Same_C) (v : ref04_Same_Y3) : Dt ref04_Same_Y4 := (Dt.ret (v.1, v.2.1, v.2.2, (decide (v.2.2 < (List.length v.1 : Int)))))
theorem ref04_Same_g4 (C : ref04_Same_C) (v : ref04_Same_Y3) : treg tysT (orc (ref04_Same_tab C)) 26 (regO (bodyOf f34) 4) false [(0, (.val Riiii)), (1, (.val Riiii)), (5, .any), (14, .any)] (ref04_Same_S3 v) some = (ref04_Same_r4 C v).eval fun y => some (ref04_Same_S4 y) := by kernel_rfl
abbrev ref04_Same_Y6 : Type := List Diiii × List Diiii × Int × Bool
def ref04_Same_S6 (v : ref04_Same_Y6) : St := ⟨[(0, .fz Riiii v.1), (1, .fz Riiii v.2.1), (5, .int .i64 v.2.2.1), (25, .bool v.2.2.2)], []⟩
def ref04_Same_r6 (C : ref04_Same_C) (v : ref04_Same_Y4) : Dt ref04_Same_Y6 := (Dt.ite (inB v.2.2.1 (List.length v.1)) (Dt.ite (inB v.2.2.1 (List.length v.2.1)) (Dt.ret (v.1, v.2.1, v.2.2.1, (!(((elt ziiii v.1 (v.2.2.1).toNat).1 == (elt ziiii v.2.1 (v.2.2.1).toNat).1) && (((elt ziiii v.1 (v.2.2.1).toNat).2.1 == (elt ziiii v.2.1 (v.2.2.1).toNat).2.1) && (((elt ziiii v.1 (v.2.2.1).toNat).2.2.1 == (elt ziiii v.2.1 (v.2.2.1).toNat).2.2.1) && (((elt ziiii v.1 (v.2.2.1).toNat).2.2.2.1 == (elt ziiii v.2.1 (v.2.2.1).toNat).2.2.2.1) && true))))))) Dt.fail) Dt.fail)
theorem ref04_Same_g6 (C : ref04_Same_C) (v : ref04_Same_Y4) : treg tysT (orc (ref04_Same_tab C)) 26 (regO (bodyOf f34) 6) true [(0, (.val Riiii)), (1, (.val Riiii)), (5, .any), (25, .any)] (ref04_Same_S4 v) some = (ref04_Same_r6 C v).eval fun y => some (ref04_Same_S6 y) := by kernel_rfl
def ref04_Same_r7 (C : ref04_Same_C) (v : ref04_Same_Y6) : Dt ref04_Same_Y2 := (Dt.ret false)
theorem ref04_Same_g7 (C : ref04_Same_C) (v : ref04_Same_Y6) : treg tysT (orc (ref04_Same_tab C)) 26 (regO (bodyOf f34) 7) false [(4, .any)] (ref04_Same_S6 v) some = (ref04_Same_r7 C v).eval fun y => some (ref04_Same_S2 y) := by kernel_rfl
def ref04_Same_r5 (C : ref04_Same_C) (v : ref04_Same_Y6) : Dt ref04_Same_Y3 := (Dt.ret (v.1, v.2.1, (IntKind.wrap .i64 (v.2.2.1 + (1:Int)))))
theorem ref04_Same_g5 (C : ref04_Same_C) (v : ref04_Same_Y6) : treg tysT (orc (ref04_Same_tab C)) 26 (regO (bodyOf f34) 5) false [(0, (.val Riiii)), (1, (.val Riiii)), (5, .any)] (ref04_Same_S6 v) some = (ref04_Same_r5 C v).eval fun y => some (ref04_Same_S3 y) := by kernel_rfl
def ref04_Same_r8 (C : ref04_Same_C) (v : ref04_Same_Y4) : Dt ref04_Same_Y2 := (Dt.ret true)
theorem ref04_Same_g8 (C : ref04_Same_C) (v : ref04_Same_Y4) : treg tysT (orc (ref04_Same_tab C)) 26 (regO (bodyOf f34) 8) false [(4, .any)] (ref04_Same_S4 v) some = (ref04_Same_r8 C v).eval fun y => some (ref04_Same_S2 y) := by kernel_rfl
def ref04_Same_L1 (d : Nat) (self1 : (List Diiii × List Diiii × Int) → Option ref04_Same_R) (x1 : List Diiii × List Diiii × Int) : Option ref04_Same_R :=
  (ref04_Same_r4 (ref04_Same_K d) x1).eval fun y4 =>
  bif y4.2.2.2 then ((ref04_Same_r6 (ref04_Same_K d) y4).eval fun y6 =>
  bif y6.2.2.2 then ((ref04_Same_r7 (ref04_Same_K d) y6).eval fun y7 =>
  some y7) else ((ref04_Same_r5 (ref04_Same_K d) y6).eval fun y5 =>
  self1 y5)) else ((ref04_Same_r8 (ref04_Same_K d) y4).eval fun y8 =>
  some y8)
def F_ref04_Same (d : Nat) (x : ref04_Same_X) : Option ref04_Same_R :=
  (ref04_Same_r0 (ref04_Same_K d) (x.1.1, x.2.1.1)).eval fun y0 =>
  (ref04_Same_r1 (ref04_Same_K d) y0).eval fun y1 =>
  bif y1.2.2 then ((ref04_Same_r2 (ref04_Same_K d) y1).eval fun y2 =>
  some y2) else ((ref04_Same_r3 (ref04_Same_K d) y1).eval fun y3 =>
  iter (ref04_Same_L1 d ) d y3)
theorem ref04_Same_cok (d : Nat) : COK prog (ref04_Same_sp (F_ref04_Same d)) := by
  have hm : prog.follows .mixedOrders = true := mixed
  have hT := tys
  have hC0 : OrcOK prog (orc (ref04_Same_tab (ref04_Same_K d))) := orc_ok (by
    intro S hS
    simp only [ref04_Same_tab, List.mem_cons, List.not_mem_nil, or_false] at hS
    all_goals first | cases hS | exact hS.elim)
  have hC : OrcOK prog (orc (ref04_Same_tab (ref04_Same_K d))) := hC0
  refine cok_of (c := bodyOf f34) (fn := f34) hT (by kernel_rfl) (by kernel_rfl) (by decide) fun x r h w0 φ0 Q hend => ?_
  replace h : F_ref04_Same d x = some r := h
  unfold F_ref04_Same at h
  show Run prog w0 φ0 26 (bodyOf f34) ⟨[(0, .fz Riiii x.1.1), (1, .fz Riiii x.2.1.1)], []⟩ Q
  refine run_seq ?_
  refine run_reg hm hT hC (ref04_Same_g0 (ref04_Same_K d) (x.1.1, x.2.1.1)) h ?_
  intro y0 h
  refine cn_then ?_
  refine run_seq ?_
  refine run_seq ?_
  refine run_reg hm hT hC (ref04_Same_g1 (ref04_Same_K d) y0) h ?_
  intro y1 h
  refine cn_then ?_
  refine run_cond (v := y1.2.2) (by kernel_rfl) h ?_ ?_
  ·
    intro h
    refine run_seq ?_
    refine run_reg hm hT hC (ref04_Same_g2 (ref04_Same_K d) y1) h ?_
    intro y2 h
    refine cn_then ?_
    refine run_ret ?_
    refine cn_then_ret ?_
    cases h
    exact (hend _ (by kernel_rfl)).2
  ·
    intro h
    refine run_skip ?_
    refine cn_then ?_
    refine run_seq ?_
    refine run_seq ?_
    refine run_reg hm hT hC (ref04_Same_g3 (ref04_Same_K d) y1) h ?_
    intro y3 h
    refine cn_then ?_
    refine run_block ?_
    refine run_loop (G := iter (ref04_Same_L1 d )) (S := (fun x1 => ⟨[(0, .fz Riiii x1.1), (1, .fz Riiii x1.2.1), (5, .int .i64 x1.2.2)], []⟩ : List Diiii × List Diiii × Int → St)) (fun _ => rfl) ?_ d _ h
    intro n1 x1 h K1 hn1
    replace h : ref04_Same_L1 d  (iter (ref04_Same_L1 d ) n1) x1 = some r := h
    generalize iter (ref04_Same_L1 d ) n1 = self1 at h hn1
    unfold ref04_Same_L1 at h
    refine run_seq ?_
    refine run_seq ?_
    refine run_reg hm hT hC (ref04_Same_g4 (ref04_Same_K d) x1) h ?_
    intro y4 h
    refine cn_then ?_
    refine run_cond (v := y4.2.2.2) (by kernel_rfl) h ?_ ?_
    ·
      intro h
      refine run_skip ?_
      refine cn_then ?_
      refine run_seq ?_
      refine run_block ?_
      refine run_seq ?_
      refine run_reg hm hT hC (ref04_Same_g6 (ref04_Same_K d) y4) h ?_
      intro y6 h
      refine cn_then ?_
      refine run_cond (v := y6.2.2.2) (by kernel_rfl) h ?_ ?_
      ·
        intro h
        refine run_seq ?_
        refine run_reg hm hT hC (ref04_Same_g7 (ref04_Same_K d) y6) h ?_
        intro y7 h
        refine cn_then ?_
        refine run_ret ?_
        refine cn_blk_ret ?_
        refine cn_then_ret ?_
        refine cn_then_ret ?_
        refine cn_blk_ret ?_
        refine cn_then_ret ?_
        cases h
        exact (hend _ (by kernel_rfl)).2
      ·
        intro h
        refine run_skip ?_
        refine cn_blk ?_
        refine cn_then ?_
        refine run_reg hm hT hC (ref04_Same_g5 (ref04_Same_K d) y6) h ?_
        intro y5 h
        exact hn1 _ h
    ·
      intro h
      refine run_exit ?_
      refine cn_then_exit ?_
      refine cn_then_exit ?_
      refine cn_blk_eq ?_
      refine cn_then ?_
      refine run_seq ?_
      refine run_reg hm hT hC (ref04_Same_g8 (ref04_Same_K d) y4) h ?_
      intro y8 h
      refine cn_then ?_
      refine run_ret ?_
      cases h
      exact (hend _ (by kernel_rfl)).2
abbrev ref34_Other_X : Type := Diiii × Di × Unit
abbrev ref34_Other_R : Type := Int
abbrev ref34_Other_C : Type := Unit
def ref34_Other_K (_d : Nat) : ref34_Other_C := ()
abbrev ref34_Other_Y0i : Type := Int × Int × Int × Int × Int
abbrev ref34_Other_Y0 : Type := Int × Int × Int × Int × Int
def ref34_Other_r0 (C : ref34_Other_C) (v : ref34_Other_Y0i) : Dt ref34_Other_Y0 := (Dt.ret (v.2.2.2.2, v.1, v.2.1, v.2.2.1, v.2.2.2.1))
abbrev ref34_Other_Y1 : Type := Bool × Int × Int × Int × Int
def ref34_Other_r1 (C : ref34_Other_C) (v : ref34_Other_Y0) : Dt ref34_Other_Y1 := (Dt.ret ((v.2.2.2.1 == v.1), v.2.1, v.2.2.1, v.2.2.2.1, v.2.2.2.2))
abbrev ref34_Other_Y2 : Type := Int
def ref34_Other_r2 (C : ref34_Other_C) (v : ref34_Other_Y1) : Dt ref34_Other_Y2 := (Dt.ret v.2.2.2.2)
def ref34_Other_r3 (C : ref34_Other_C) (v : ref34_Other_Y1) : Dt ref34_Other_Y2 := (Dt.ret v.2.2.2.1)
def F_ref34_Other (d : Nat) (x : ref34_Other_X) : Option ref34_Other_R :=
  (ref34_Other_r0 (ref34_Other_K d) (x.1.1, x.1.2.1, x.1.2.2.1, x.1.2.2.2.1, x.2.1.1)).eval fun y0 =>
  (ref34_Other_r1 (ref34_Other_K d) y0).eval fun y1 =>
  bif y1.1 then ((ref34_Other_r2 (ref34_Other_K d) y1).eval fun y2 =>
  some y2) else ((ref34_Other_r3 (ref34_Other_K d) y1).eval fun y3 =>
  some y3)
abbrev ref34_behind_X : Type := DLiiiE × Di × Dii × Unit
abbrev ref34_behind_R : Type := List Diiii
abbrev ref34_behind_C : Type := (ref01_Compare_X → Option ref01_Compare_R) × (ref34_Other_X → Option ref34_Other_R) × (ref04_Pairs_X → Option ref04_Pairs_R) × Unit
def ref34_behind_K (d : Nat) : ref34_behind_C := (F_ref01_Compare d, F_ref34_Other d, F_ref04_Pairs d, ())
abbrev ref34_behind_Y0i : Type := List Diii × Int × Int × Int
abbrev ref34_behind_Y0 : Type := Int × List Diii × Int × Int
def ref34_behind_r0 (C : ref34_behind_C) (v : ref34_behind_Y0i) : Dt ref34_behind_Y0 := (Dt.ret (v.2.1, v.1, v.2.2.1, v.2.2.2))
abbrev ref34_behind_Y1 : Type := Int × Int × Int × List Diiii
def ref34_behind_r1 (C : ref34_behind_C) (v : ref34_behind_Y0) : Dt ref34_behind_Y1 := (Dt.bnd (C.2.2.1 ((v.2.1, ()), ())) fun r1 => (Dt.ret (v.1, v.2.2.1, v.2.2.2, r1)))
abbrev ref34_behind_Y2 : Type := Int × Int × Int × List Diiii × List Diiii
def ref34_behind_r2 (C : ref34_behind_C) (v : ref34_behind_Y1) : Dt ref34_behind_Y2 := (Dt.ret (v.1, v.2.1, v.2.2.1, v.2.2.2, ([] : List Diiii)))
abbrev ref34_behind_Y3 : Type := Int × Int × Int × Int × List Diiii × List Diiii
def ref34_behind_r3 (C : ref34_behind_C) (v : ref34_behind_Y2) : Dt ref34_behind_Y3 := (Dt.ret (v.1, (0:Int), v.2.1, v.2.2.1, v.2.2.2.1, v.2.2.2.2))
abbrev ref34_behind_Y4 : Type := Int × Int × Bool × Int × Int × List Diiii × List Diiii
def ref34_behind_r4 (C : ref34_behind_C) (v : ref34_behind_Y3) : Dt ref34_behind_Y4 := (Dt.ret (v.1, v.2.1, (decide (v.2.1 < (List.length v.2.2.2.2.1 : Int))), v.2.2.1, v.2.2.2.1, v.2.2.2.2.1, v.2.2.2.2.2))
abbrev ref34_behind_Y6 : Type := Int × Int × Bool × Int × Int × List Diiii × List Diiii
def ref34_behind_r6 (C : ref34_behind_C) (v : ref34_behind_Y4) : Dt ref34_behind_Y6 := (Dt.ite (inB v.2.1 (List.length v.2.2.2.2.2.1)) (Dt.ite ((elt ziiii v.2.2.2.2.2.1 (v.2.1).toNat).2.2.1 == v.1) (Dt.ite (inB v.2.1 (List.length v.2.2.2.2.2.1)) (Dt.bnd (C.1 (((elt ziiii v.2.2.2.2.2.1 (v.2.1).toNat).1, (elt ziiii v.2.2.2.2.2.1 (v.2.1).toNat).2.1, ()), (v.2.2.2.1, v.2.2.2.2.1, ()), ())) fun r1 => (Dt.ret (v.1, v.2.1, (decide (r1 > (0:Int))), v.2.2.2.1, v.2.2.2.2.1, v.2.2.2.2.2.1, v.2.2.2.2.2.2))) Dt.fail) (Dt.ite (inB v.2.1 (List.length v.2.2.2.2.2.1)) (Dt.ite ((elt ziiii v.2.2.2.2.2.1 (v.2.1).toNat).2.2.2.1 == v.1) (Dt.ite (inB v.2.1 (List.length v.2.2.2.2.2.1)) (Dt.bnd (C.1 (((elt ziiii v.2.2.2.2.2.1 (v.2.1).toNat).1, (elt ziiii v.2.2.2.2.2.1 (v.2.1).toNat).2.1, ()), (v.2.2.2.1, v.2.2.2.2.1, ()), ())) fun r2 => (Dt.ret (v.1, v.2.1, (decide (r2 > (0:Int))), v.2.2.2.1, v.2.2.2.2.1, v.2.2.2.2.2.1, v.2.2.2.2.2.2))) Dt.fail) (Dt.ret (v.1, v.2.1, false, v.2.2.2.1, v.2.2.2.2.1, v.2.2.2.2.2.1, v.2.2.2.2.2.2))) Dt.fail)) Dt.fail)
def ref34_behind_r7 (C : ref34_behind_C) (v : ref34_behind_Y6) : Dt ref34_behind_Y3 := (Dt.ite (inB v.2.1 (List.length v.2.2.2.2.2.1)) (Dt.ite (apB (List.length v.2.2.2.2.2.2) (List.length ([((elt ziiii v.2.2.2.2.2.1 (v.2.1).toNat).1, (elt ziiii v.2.2.2.2.2.1 (v.2.1).toNat).2.1, (elt ziiii v.2.2.2.2.2.1 (v.2.1).toNat).2.2.1, (elt ziiii v.2.2.2.2.2.1 (v.2.1).toNat).2.2.2.1, ())] : List Diiii))) (Dt.ret (v.1, v.2.1, v.2.2.2.1, v.2.2.2.2.1, v.2.2.2.2.2.1, (v.2.2.2.2.2.2 ++ ([((elt ziiii v.2.2.2.2.2.1 (v.2.1).toNat).1, (elt ziiii v.2.2.2.2.2.1 (v.2.1).toNat).2.1, (elt ziiii v.2.2.2.2.2.1 (v.2.1).toNat).2.2.1, (elt ziiii v.2.2.2.2.2.1 (v.2.1).toNat).2.2.2.1, ())] : List Diiii)))) Dt.fail) Dt.fail)
def ref34_behind_r5 (C : ref34_behind_C) (v : ref34_behind_Y3) : Dt ref34_behind_Y3 := (Dt.ret (v.1, (IntKind.wrap .i64 (v.2.1 + (1:Int))), v.2.2.1, v.2.2.2.1, v.2.2.2.2.1, v.2.2.2.2.2))
def ref34_behind_J2  (d : Nat) (self1 : (Int × Int × Int × Int × List Diiii × List Diiii) → Option ref34_behind_R) (z : Int × Int × Int × Int × List Diiii × List Diiii) : Option (ref34_behind_R) :=
  (ref34_behind_r5 (ref34_behind_K d) z).eval fun y5 =>
  self1 y5
abbrev ref34_behind_Y8 : Type := Int × Int × List Diiii
def ref34_behind_r8 (C : ref34_behind_C) (v : ref34_behind_Y4) : Dt ref34_behind_Y8 := (Dt.ret (v.1, (1:Int), v.2.2.2.2.2.2))
abbrev ref34_behind_Y9 : Type := Int × Int × Bool × List Diiii
def ref34_behind_r9 (C : ref34_behind_C) (v : ref34_behind_Y8) : Dt ref34_behind_Y9 := (Dt.ret (v.1, v.2.1, (decide (v.2.1 < (List.length v.2.2 : Int))), v.2.2))
abbrev ref34_behind_Y11 : Type := Int × Int × Int × List Diiii
def ref34_behind_r11 (C : ref34_behind_C) (v : ref34_behind_Y9) : Dt ref34_behind_Y11 := (Dt.ret (v.1, v.2.1, v.2.1, v.2.2.2))
abbrev ref34_behind_Y12 : Type := Int × Int × Int × Bool × List Diiii
def ref34_behind_r12 (C : ref34_behind_C) (v : ref34_behind_Y11) : Dt ref34_behind_Y12 := (Dt.ite (decide (v.2.2.1 > (0:Int))) (Dt.ite (inB v.2.2.1 (List.length v.2.2.2)) (Dt.ite (inB (IntKind.wrap .i64 (v.2.2.1 - (1:Int))) (List.length v.2.2.2)) (Dt.ite (((elt ziiii v.2.2.2 (v.2.2.1).toNat).1 == (elt ziiii v.2.2.2 ((IntKind.wrap .i64 (v.2.2.1 - (1:Int)))).toNat).1) && (((elt ziiii v.2.2.2 (v.2.2.1).toNat).2.1 == (elt ziiii v.2.2.2 ((IntKind.wrap .i64 (v.2.2.1 - (1:Int)))).toNat).2.1) && true)) (Dt.ite (inB v.2.2.1 (List.length v.2.2.2)) (Dt.bnd (C.2.1 (((elt ziiii v.2.2.2 (v.2.2.1).toNat).1, (elt ziiii v.2.2.2 (v.2.2.1).toNat).2.1, (elt ziiii v.2.2.2 (v.2.2.1).toNat).2.2.1, (elt ziiii v.2.2.2 (v.2.2.1).toNat).2.2.2.1, ()), (v.1, ()), ())) fun r1 => (Dt.ite (inB (IntKind.wrap .i64 (v.2.2.1 - (1:Int))) (List.length v.2.2.2)) (Dt.bnd (C.2.1 (((elt ziiii v.2.2.2 ((IntKind.wrap .i64 (v.2.2.1 - (1:Int)))).toNat).1, (elt ziiii v.2.2.2 ((IntKind.wrap .i64 (v.2.2.1 - (1:Int)))).toNat).2.1, (elt ziiii v.2.2.2 ((IntKind.wrap .i64 (v.2.2.1 - (1:Int)))).toNat).2.2.1, (elt ziiii v.2.2.2 ((IntKind.wrap .i64 (v.2.2.1 - (1:Int)))).toNat).2.2.2.1, ()), (v.1, ()), ())) fun r2 => (Dt.ret (v.1, v.2.1, v.2.2.1, (decide (r1 < r2)), v.2.2.2))) Dt.fail)) Dt.fail) (Dt.ret (v.1, v.2.1, v.2.2.1, false, v.2.2.2))) Dt.fail) Dt.fail) (Dt.ret (v.1, v.2.1, v.2.2.1, false, v.2.2.2)))
def ref34_behind_r14 (C : ref34_behind_C) (v : ref34_behind_Y12) : Dt ref34_behind_Y11 := (Dt.ite (inB (IntKind.wrap .i64 (v.2.2.1 - (1:Int))) (List.length v.2.2.2.2)) (Dt.ite (inB v.2.2.1 (List.length v.2.2.2.2)) (Dt.ite (inB v.2.2.1 (List.length v.2.2.2.2)) (Dt.ite (inB (IntKind.wrap .i64 (v.2.2.1 - (1:Int))) (List.length (List.set v.2.2.2.2 (v.2.2.1).toNat ((elt ziiii v.2.2.2.2 ((IntKind.wrap .i64 (v.2.2.1 - (1:Int)))).toNat).1, (elt ziiii v.2.2.2.2 ((IntKind.wrap .i64 (v.2.2.1 - (1:Int)))).toNat).2.1, (elt ziiii v.2.2.2.2 ((IntKind.wrap .i64 (v.2.2.1 - (1:Int)))).toNat).2.2.1, (elt ziiii v.2.2.2.2 ((IntKind.wrap .i64 (v.2.2.1 - (1:Int)))).toNat).2.2.2.1, ())))) (Dt.ret (v.1, v.2.1, v.2.2.1, (List.set (List.set v.2.2.2.2 (v.2.2.1).toNat ((elt ziiii v.2.2.2.2 ((IntKind.wrap .i64 (v.2.2.1 - (1:Int)))).toNat).1, (elt ziiii v.2.2.2.2 ((IntKind.wrap .i64 (v.2.2.1 - (1:Int)))).toNat).2.1, (elt ziiii v.2.2.2.2 ((IntKind.wrap .i64 (v.2.2.1 - (1:Int)))).toNat).2.2.1, (elt ziiii v.2.2.2.2 ((IntKind.wrap .i64 (v.2.2.1 - (1:Int)))).toNat).2.2.2.1, ())) ((IntKind.wrap .i64 (v.2.2.1 - (1:Int)))).toNat ((elt ziiii v.2.2.2.2 (v.2.2.1).toNat).1, (elt ziiii v.2.2.2.2 (v.2.2.1).toNat).2.1, (elt ziiii v.2.2.2.2 (v.2.2.1).toNat).2.2.1, (elt ziiii v.2.2.2.2 (v.2.2.1).toNat).2.2.2.1, ())))) Dt.fail) Dt.fail) Dt.fail) Dt.fail)
def ref34_behind_r13 (C : ref34_behind_C) (v : ref34_behind_Y11) : Dt ref34_behind_Y11 := (Dt.ret (v.1, v.2.1, (IntKind.wrap .i64 (v.2.2.1 - (1:Int))), v.2.2.2))
def ref34_behind_r10 (C : ref34_behind_C) (v : ref34_behind_Y12) : Dt ref34_behind_Y8 := (Dt.ret (v.1, (IntKind.wrap .i64 (v.2.1 + (1:Int))), v.2.2.2.2))
def ref34_behind_L4 (d : Nat) (self3 : (Int × Int × List Diiii) → Option ref34_behind_R) (self4 : (Int × Int × Int × List Diiii) → Option ref34_behind_R) (x4 : Int × Int × Int × List Diiii) : Option ref34_behind_R :=
  (ref34_behind_r12 (ref34_behind_K d) x4).eval fun y12 =>
  bif y12.2.2.2.1 then ((ref34_behind_r14 (ref34_behind_K d) y12).eval fun y14 =>
  (ref34_behind_r13 (ref34_behind_K d) y14).eval fun y13 =>
  self4 y13) else ((ref34_behind_r10 (ref34_behind_K d) y12).eval fun y10 =>
  self3 y10)
abbrev ref34_behind_Y15 : Type := List Diiii
def ref34_behind_r15 (C : ref34_behind_C) (v : ref34_behind_Y9) : Dt ref34_behind_Y15 := (Dt.ret v.2.2.2)
def ref34_behind_L3 (d : Nat) (self3 : (Int × Int × List Diiii) → Option ref34_behind_R) (x3 : Int × Int × List Diiii) : Option ref34_behind_R :=
  (ref34_behind_r9 (ref34_behind_K d) x3).eval fun y9 =>
  bif y9.2.2.1 then ((ref34_behind_r11 (ref34_behind_K d) y9).eval fun y11 =>
  iter (ref34_behind_L4 d self3) d y11) else ((ref34_behind_r15 (ref34_behind_K d) y9).eval fun y15 =>
  some y15)
def ref34_behind_L1 (d : Nat) (self1 : (Int × Int × Int × Int × List Diiii × List Diiii) → Option ref34_behind_R) (x1 : Int × Int × Int × Int × List Diiii × List Diiii) : Option ref34_behind_R :=
  (ref34_behind_r4 (ref34_behind_K d) x1).eval fun y4 =>
  bif y4.2.2.1 then ((ref34_behind_r6 (ref34_behind_K d) y4).eval fun y6 =>
  bif y6.2.2.1 then ((ref34_behind_r7 (ref34_behind_K d) y6).eval fun y7 =>
  ref34_behind_J2 d self1 y7) else (ref34_behind_J2 d self1 (y6.1, y6.2.1, y6.2.2.2.1, y6.2.2.2.2.1, y6.2.2.2.2.2.1, y6.2.2.2.2.2.2))) else ((ref34_behind_r8 (ref34_behind_K d) y4).eval fun y8 =>
  iter (ref34_behind_L3 d ) d y8)
def F_ref34_behind (d : Nat) (x : ref34_behind_X) : Option ref34_behind_R :=
  (ref34_behind_r0 (ref34_behind_K d) (x.1.1, x.2.1.1, x.2.2.1.1, x.2.2.1.2.1)).eval fun y0 =>
  (ref34_behind_r1 (ref34_behind_K d) y0).eval fun y1 =>
  (ref34_behind_r2 (ref34_behind_K d) y1).eval fun y2 =>
  (ref34_behind_r3 (ref34_behind_K d) y2).eval fun y3 =>
  iter (ref34_behind_L1 d ) d y3
abbrev ref01_Both_ps : List Pk := [.row Rii true, .row Rii true]
abbrev ref01_Both_X : Type := Dii × Dii × Unit
abbrev ref01_Both_R : Type := Int
def ref01_Both_enc (r : ref01_Both_R) : LV × List Ob := (.int .i64 r, [])
def ref01_Both_sp (F : ref01_Both_X → Option ref01_Both_R) : Go.Tx.Spec := ⟨77, ref01_Both_ps, ref01_Both_R, F, ref01_Both_enc⟩
abbrev ref01_Both_C : Type := (ref01_Check_X → Option ref01_Check_R) × Unit
def ref01_Both_K (d : Nat) : ref01_Both_C := (F_ref01_Check d, ())
def ref01_Both_tab (C : ref01_Both_C) : List Go.Tx.Spec := [ref01_Check_sp C.1]
abbrev ref01_Both_Y0i : Type := Int × Int × Int × Int
def ref01_Both_S0i (v : ref01_Both_Y0i) : St := ⟨[(0, .agg [.int .i64 v.1, .int .i64 v.2.1]), (1, .agg [.int .i64 v.2.2.1, .int .i64 v.2.2.2])], []⟩
abbrev ref01_Both_Y0 : Type := Int × Int × Int × Int
def ref01_Both_S0 (v : ref01_Both_Y0) : St := ⟨[(2, .ptr 0 0), (3, .ptr 1 0)], [.cells [.int .i64 v.1, .int .i64 v.2.1], .cells [.int .i64 v.2.2.1, .int .i64 v.2.2.2]]⟩
def ref01_Both_r0 (C : ref01_Both_C) (v : ref01_Both_Y0i) : Dt ref01_Both_Y0 := (Dt.ret (v.1, v.2.1, v.2.2.1, v.2.2.2))
theorem ref01_Both_g0 (C : ref01_Both_C) (v : ref01_Both_Y0i) : treg tysT (orc (ref01_Both_tab C)) 12 (regO (bodyOf f77) 0) false [(2, .any), (3, .any)] (ref01_Both_S0i v) some = (ref01_Both_r0 C v).eval fun y => some (ref01_Both_S0 y) := by kernel_rfl
abbrev ref01_Both_Y1 : Type := Bool × Int × Int × Int × Int
def ref01_Both_S1 (v : ref01_Both_Y1) : St := ⟨[(2, .ptr 0 0), (3, .ptr 1 0), (7, .bool v.1)], [.cells [.int .i64 v.2.1, .int .i64 v.2.2.1], .cells [.int .i64 v.2.2.2.1, .int .i64 v.2.2.2.2]]⟩
def ref01_Both_r1 (C : ref01_Both_C) (v : ref01_Both_Y0) : Dt ref01_Both_Y1 := (Dt.bnd (C.1 ((v.1, v.2.1, ()), ())) fun r1 => (Dt.ret ((r1 != (0:Int)), v.1, v.2.1, v.2.2.1, v.2.2.2)))
theorem ref01_Both_g1 (C : ref01_Both_C) (v : ref01_Both_Y0) : treg tysT (orc (ref01_Both_tab C)) 12 (regO (bodyOf f77) 1) false [(2, .any), (3, .any), (7, .any)] (ref01_Both_S0 v) some = (ref01_Both_r1 C v).eval fun y => some (ref01_Both_S1 y) := by kernel_rfl
abbrev ref01_Both_Y2 : Type := Int
def ref01_Both_S2 (v : ref01_Both_Y2) : St := ⟨[(4, .int .i64 v)], []⟩
def ref01_Both_r2 (C : ref01_Both_C) (v : ref01_Both_Y1) : Dt ref01_Both_Y2 := (Dt.bnd (C.1 ((v.2.1, v.2.2.1, ()), ())) fun r1 => (Dt.ret r1))
theorem ref01_Both_g2 (C : ref01_Both_C) (v : ref01_Both_Y1) : treg tysT (orc (ref01_Both_tab C)) 12 (regO (bodyOf f77) 2) false [(4, .any)] (ref01_Both_S1 v) some = (ref01_Both_r2 C v).eval fun y => some (ref01_Both_S2 y) := by kernel_rfl
def ref01_Both_r3 (C : ref01_Both_C) (v : ref01_Both_Y1) : Dt ref01_Both_Y2 := (Dt.bnd (C.1 ((v.2.2.2.1, v.2.2.2.2, ()), ())) fun r1 => (Dt.ret r1))
theorem ref01_Both_g3 (C : ref01_Both_C) (v : ref01_Both_Y1) : treg tysT (orc (ref01_Both_tab C)) 12 (regO (bodyOf f77) 3) false [(4, .any)] (ref01_Both_S1 v) some = (ref01_Both_r3 C v).eval fun y => some (ref01_Both_S2 y) := by kernel_rfl
def F_ref01_Both (d : Nat) (x : ref01_Both_X) : Option ref01_Both_R :=
  (ref01_Both_r0 (ref01_Both_K d) (x.1.1, x.1.2.1, x.2.1.1, x.2.1.2.1)).eval fun y0 =>
  (ref01_Both_r1 (ref01_Both_K d) y0).eval fun y1 =>
  bif y1.1 then ((ref01_Both_r2 (ref01_Both_K d) y1).eval fun y2 =>
  some y2) else ((ref01_Both_r3 (ref01_Both_K d) y1).eval fun y3 =>
  some y3)
theorem ref01_Both_cok (d : Nat) : COK prog (ref01_Both_sp (F_ref01_Both d)) := by
  have hm : prog.follows .mixedOrders = true := mixed
  have hT := tys
  have hC0 : OrcOK prog (orc (ref01_Both_tab (ref01_Both_K d))) := orc_ok (by
    intro S hS
    simp only [ref01_Both_tab, List.mem_cons, List.not_mem_nil, or_false] at hS
    subst hS; exact ref01_Check_cok d)
  have hC : OrcOK prog (orc (ref01_Both_tab (ref01_Both_K d))) := hC0
  refine cok_of (c := bodyOf f77) (fn := f77) hT (by kernel_rfl) (by kernel_rfl) (by decide) fun x r h w0 φ0 Q hend => ?_
  replace h : F_ref01_Both d x = some r := h
  unfold F_ref01_Both at h
  show Run prog w0 φ0 12 (bodyOf f77) ⟨[(0, .agg [.int .i64 x.1.1, .int .i64 x.1.2.1]), (1, .agg [.int .i64 x.2.1.1, .int .i64 x.2.1.2.1])], []⟩ Q
  refine run_seq ?_
  refine run_reg hm hT hC (ref01_Both_g0 (ref01_Both_K d) (x.1.1, x.1.2.1, x.2.1.1, x.2.1.2.1)) h ?_
  intro y0 h
  refine cn_then ?_
  refine run_seq ?_
  refine run_seq ?_
  refine run_reg hm hT hC (ref01_Both_g1 (ref01_Both_K d) y0) h ?_
  intro y1 h
  refine cn_then ?_
  refine run_cond (v := y1.1) (by kernel_rfl) h ?_ ?_
  ·
    intro h
    refine run_seq ?_
    refine run_reg hm hT hC (ref01_Both_g2 (ref01_Both_K d) y1) h ?_
    intro y2 h
    refine cn_then ?_
    refine run_ret ?_
    refine cn_then_ret ?_
    cases h
    exact (hend _ (by kernel_rfl)).2
  ·
    intro h
    refine run_skip ?_
    refine cn_then ?_
    refine run_seq ?_
    refine run_reg hm hT hC (ref01_Both_g3 (ref01_Both_K d) y1) h ?_
    intro y3 h
    refine cn_then ?_
    refine run_ret ?_
    cases h
    exact (hend _ (by kernel_rfl)).2
abbrev ref34_Caught_X : Type := DLiiiE × Di × Dii × Dii × Unit
abbrev ref34_Caught_R : Type := List Di × List Di × Int
abbrev ref34_Caught_C : Type := (ref03_At_X → Option ref03_At_R) × (ref01_Compare_X → Option ref01_Compare_R) × (ref34_Other_X → Option ref34_Other_R) × (ref03_Check_X → Option ref03_Check_R) × (ref34_behind_X → Option ref34_behind_R) × (ref01_Both_X → Option ref01_Both_R) × Unit
def ref34_Caught_K (d : Nat) : ref34_Caught_C := (F_ref03_At d, F_ref01_Compare d, F_ref34_Other d, F_ref03_Check d, F_ref34_behind d, F_ref01_Both d, ())
abbrev ref34_Caught_Y0i : Type := List Diii × Int × Int × Int × Int × Int
abbrev ref34_Caught_Y0 : Type := Int × List Diii × Int × Int × Int × Int
def ref34_Caught_r0 (C : ref34_Caught_C) (v : ref34_Caught_Y0i) : Dt ref34_Caught_Y0 := (Dt.ret (v.2.1, v.1, v.2.2.1, v.2.2.2.1, v.2.2.2.2.1, v.2.2.2.2.2))
abbrev ref34_Caught_Y1 : Type := Int × Int × List Diii × Int × Int × Int × Int
def ref34_Caught_r1 (C : ref34_Caught_C) (v : ref34_Caught_Y0) : Dt ref34_Caught_Y1 := (Dt.bnd (C.2.2.2.1 ((v.2.1, ()), ())) fun r1 => (Dt.ret (v.1, r1, v.2.1, v.2.2.1, v.2.2.2.1, v.2.2.2.2.1, v.2.2.2.2.2)))
abbrev ref34_Caught_Y2 : Type := Int × Int × Bool × List Diii × Int × Int × Int × Int
def ref34_Caught_r2 (C : ref34_Caught_C) (v : ref34_Caught_Y1) : Dt ref34_Caught_Y2 := (Dt.ret (v.1, v.2.1, (v.2.1 != (0:Int)), v.2.2.1, v.2.2.2.1, v.2.2.2.2.1, v.2.2.2.2.2.1, v.2.2.2.2.2.2))
abbrev ref34_Caught_Y3 : Type := Int × List Di × List Di
def ref34_Caught_r3 (C : ref34_Caught_C) (v : ref34_Caught_Y2) : Dt ref34_Caught_Y3 := (Dt.ret (v.2.1, ([] : List Di), ([] : List Di)))
abbrev ref34_Caught_Y4 : Type := Int × Int × List Diii × Int × Int × Int × Int
def ref34_Caught_r4 (C : ref34_Caught_C) (v : ref34_Caught_Y2) : Dt ref34_Caught_Y4 := (Dt.bnd (C.2.2.2.2.2.1 ((v.2.2.2.2.1, v.2.2.2.2.2.1, ()), (v.2.2.2.2.2.2.1, v.2.2.2.2.2.2.2, ()), ())) fun r1 => (Dt.ret (v.1, r1, v.2.2.2.1, v.2.2.2.2.1, v.2.2.2.2.2.1, v.2.2.2.2.2.2.1, v.2.2.2.2.2.2.2)))
abbrev ref34_Caught_Y5 : Type := Int × Int × Bool × List Diii × Int × Int × Int × Int
def ref34_Caught_r5 (C : ref34_Caught_C) (v : ref34_Caught_Y4) : Dt ref34_Caught_Y5 := (Dt.ret (v.1, v.2.1, (v.2.1 != (0:Int)), v.2.2.1, v.2.2.2.1, v.2.2.2.2.1, v.2.2.2.2.2.1, v.2.2.2.2.2.2))
def ref34_Caught_r6 (C : ref34_Caught_C) (v : ref34_Caught_Y5) : Dt ref34_Caught_Y3 := (Dt.ret (v.2.1, ([] : List Di), ([] : List Di)))
abbrev ref34_Caught_Y7 : Type := Int × Bool × List Diii × Int × Int × Int × Int
def ref34_Caught_r7 (C : ref34_Caught_C) (v : ref34_Caught_Y5) : Dt ref34_Caught_Y7 := (Dt.bnd (C.2.1 ((v.2.2.2.2.1, v.2.2.2.2.2.1, ()), (v.2.2.2.2.2.2.1, v.2.2.2.2.2.2.2, ()), ())) fun r1 => (Dt.ret (v.1, (decide (r1 > (0:Int))), v.2.2.2.1, v.2.2.2.2.1, v.2.2.2.2.2.1, v.2.2.2.2.2.2.1, v.2.2.2.2.2.2.2)))
def ref34_Caught_r8 (C : ref34_Caught_C) (v : ref34_Caught_Y7) : Dt ref34_Caught_Y3 := (Dt.ret ((2:Int), ([] : List Di), ([] : List Di)))
abbrev ref34_Caught_Y9 : Type := Int × Int × List Diii × Int × Int × Int × Int
def ref34_Caught_r9 (C : ref34_Caught_C) (v : ref34_Caught_Y7) : Dt ref34_Caught_Y9 := (Dt.bnd (C.1 ((v.2.2.1, ()), (v.1, ()), ())) fun r1 => (Dt.ret (v.1, r1, v.2.2.1, v.2.2.2.1, v.2.2.2.2.1, v.2.2.2.2.2.1, v.2.2.2.2.2.2)))
abbrev ref34_Caught_Y10 : Type := Int × Int × Bool × List Diii × Int × Int × Int × Int
def ref34_Caught_r10 (C : ref34_Caught_C) (v : ref34_Caught_Y9) : Dt ref34_Caught_Y10 := (Dt.ret (v.1, v.2.1, (decide (v.2.1 < (0:Int))), v.2.2.1, v.2.2.2.1, v.2.2.2.2.1, v.2.2.2.2.2.1, v.2.2.2.2.2.2))
def ref34_Caught_r11 (C : ref34_Caught_C) (v : ref34_Caught_Y10) : Dt ref34_Caught_Y3 := (Dt.ret ((6:Int), ([] : List Di), ([] : List Di)))
abbrev ref34_Caught_Y12 : Type := Int × Int × List Diii × Int × Int × List Diiii
def ref34_Caught_r12 (C : ref34_Caught_C) (v : ref34_Caught_Y10) : Dt ref34_Caught_Y12 := (Dt.bnd (C.2.2.2.2.1 ((v.2.2.2.1, ()), (v.1, ()), (v.2.2.2.2.1, v.2.2.2.2.2.1, ()), ())) fun r1 => (Dt.ret (v.1, v.2.1, v.2.2.2.1, v.2.2.2.2.2.2.1, v.2.2.2.2.2.2.2, r1)))
abbrev ref34_Caught_Y13 : Type := Int × Int × List Diii × Int × Int × List Diiii × List Di × List Di
def ref34_Caught_r13 (C : ref34_Caught_C) (v : ref34_Caught_Y12) : Dt ref34_Caught_Y13 := (Dt.ret (v.1, v.2.1, v.2.2.1, v.2.2.2.1, v.2.2.2.2.1, v.2.2.2.2.2, ([] : List Di), ([] : List Di)))
abbrev ref34_Caught_Y14 : Type := Int × Int × Int × List Diii × Int × Int × List Diiii × List Di × List Di
def ref34_Caught_r14 (C : ref34_Caught_C) (v : ref34_Caught_Y13) : Dt ref34_Caught_Y14 := (Dt.ret (v.1, v.2.1, (0:Int), v.2.2.1, v.2.2.2.1, v.2.2.2.2.1, v.2.2.2.2.2.1, v.2.2.2.2.2.2.1, v.2.2.2.2.2.2.2))
abbrev ref34_Caught_Y15 : Type := Int × Int × Int × Bool × List Diii × Int × Int × List Diiii × List Di × List Di
def ref34_Caught_r15 (C : ref34_Caught_C) (v : ref34_Caught_Y14) : Dt ref34_Caught_Y15 := (Dt.ite (decide (v.2.2.1 < (List.length v.2.2.2.2.2.2.1 : Int))) (Dt.ite (inB v.2.2.1 (List.length v.2.2.2.2.2.2.1)) (Dt.bnd (C.2.1 (((elt ziiii v.2.2.2.2.2.2.1 (v.2.2.1).toNat).1, (elt ziiii v.2.2.2.2.2.2.1 (v.2.2.1).toNat).2.1, ()), (v.2.2.2.2.1, v.2.2.2.2.2.1, ()), ())) fun r1 => (Dt.ret (v.1, v.2.1, v.2.2.1, (decide (r1 ≤ (0:Int))), v.2.2.2.1, v.2.2.2.2.1, v.2.2.2.2.2.1, v.2.2.2.2.2.2.1, v.2.2.2.2.2.2.2.1, v.2.2.2.2.2.2.2.2))) Dt.fail) (Dt.ret (v.1, v.2.1, v.2.2.1, false, v.2.2.2.1, v.2.2.2.2.1, v.2.2.2.2.2.1, v.2.2.2.2.2.2.1, v.2.2.2.2.2.2.2.1, v.2.2.2.2.2.2.2.2)))
abbrev ref34_Caught_Y17 : Type := Int × Int × Int × Int × List Diii × Int × Int × List Diiii × List Di × List Di
def ref34_Caught_r17 (C : ref34_Caught_C) (v : ref34_Caught_Y15) : Dt ref34_Caught_Y17 := (Dt.ite (inB v.2.2.1 (List.length v.2.2.2.2.2.2.2.1)) (Dt.bnd (C.2.2.1 (((elt ziiii v.2.2.2.2.2.2.2.1 (v.2.2.1).toNat).1, (elt ziiii v.2.2.2.2.2.2.2.1 (v.2.2.1).toNat).2.1, (elt ziiii v.2.2.2.2.2.2.2.1 (v.2.2.1).toNat).2.2.1, (elt ziiii v.2.2.2.2.2.2.2.1 (v.2.2.1).toNat).2.2.2.1, ()), (v.1, ()), ())) fun r1 => (Dt.ret (v.1, v.2.1, v.2.2.1, r1, v.2.2.2.2.1, v.2.2.2.2.2.1, v.2.2.2.2.2.2.1, v.2.2.2.2.2.2.2.1, v.2.2.2.2.2.2.2.2.1, v.2.2.2.2.2.2.2.2.2))) Dt.fail)
abbrev ref34_Caught_Y18 : Type := Int × Int × Int × Int × Bool × List Diii × Int × Int × List Diiii × List Di × List Di
def ref34_Caught_r18 (C : ref34_Caught_C) (v : ref34_Caught_Y17) : Dt ref34_Caught_Y18 := (Dt.ite (inB v.2.1 (List.length v.2.2.2.2.1)) (Dt.bnd (C.1 ((v.2.2.2.2.1, ()), (v.2.2.2.1, ()), ())) fun r1 => (Dt.ite (inB r1 (List.length v.2.2.2.2.1)) (Dt.ret (v.1, v.2.1, v.2.2.1, v.2.2.2.1, (decide ((elt ziii v.2.2.2.2.1 (v.2.1).toNat).2.2.1 > (elt ziii v.2.2.2.2.1 (r1).toNat).2.2.1)), v.2.2.2.2.1, v.2.2.2.2.2.1, v.2.2.2.2.2.2.1, v.2.2.2.2.2.2.2.1, v.2.2.2.2.2.2.2.2.1, v.2.2.2.2.2.2.2.2.2)) Dt.fail)) Dt.fail)
def ref34_Caught_r19 (C : ref34_Caught_C) (v : ref34_Caught_Y18) : Dt ref34_Caught_Y14 := (Dt.ite (apB (List.length v.2.2.2.2.2.2.2.2.2.1) (List.length ([(v.2.2.2.1, ())] : List Di))) (Dt.ret (v.1, v.2.1, v.2.2.1, v.2.2.2.2.2.1, v.2.2.2.2.2.2.1, v.2.2.2.2.2.2.2.1, v.2.2.2.2.2.2.2.2.1, (v.2.2.2.2.2.2.2.2.2.1 ++ ([(v.2.2.2.1, ())] : List Di)), v.2.2.2.2.2.2.2.2.2.2)) Dt.fail)
def ref34_Caught_r16 (C : ref34_Caught_C) (v : ref34_Caught_Y14) : Dt ref34_Caught_Y14 := (Dt.ret (v.1, v.2.1, (IntKind.wrap .i64 (v.2.2.1 + (1:Int))), v.2.2.2.1, v.2.2.2.2.1, v.2.2.2.2.2.1, v.2.2.2.2.2.2.1, v.2.2.2.2.2.2.2.1, v.2.2.2.2.2.2.2.2))
def ref34_Caught_J2  (d : Nat) (self1 : (Int × Int × Int × List Diii × Int × Int × List Diiii × List Di × List Di) → Option ref34_Caught_R) (z : Int × Int × Int × List Diii × Int × Int × List Diiii × List Di × List Di) : Option (ref34_Caught_R) :=
  (ref34_Caught_r16 (ref34_Caught_K d) z).eval fun y16 =>
  self1 y16
def ref34_Caught_r20 (C : ref34_Caught_C) (v : ref34_Caught_Y18) : Dt ref34_Caught_Y14 := (Dt.ite (apB (List.length v.2.2.2.2.2.2.2.2.2.2) (List.length ([(v.2.2.2.1, ())] : List Di))) (Dt.ret (v.1, v.2.1, v.2.2.1, v.2.2.2.2.2.1, v.2.2.2.2.2.2.1, v.2.2.2.2.2.2.2.1, v.2.2.2.2.2.2.2.2.1, v.2.2.2.2.2.2.2.2.2.1, (v.2.2.2.2.2.2.2.2.2.2 ++ ([(v.2.2.2.1, ())] : List Di)))) Dt.fail)
def ref34_Caught_r21 (C : ref34_Caught_C) (v : ref34_Caught_Y15) : Dt ref34_Caught_Y3 := (Dt.ret ((0:Int), v.2.2.2.2.2.2.2.2.1, v.2.2.2.2.2.2.2.2.2))
def ref34_Caught_L1 (d : Nat) (self1 : (Int × Int × Int × List Diii × Int × Int × List Diiii × List Di × List Di) → Option ref34_Caught_R) (x1 : Int × Int × Int × List Diii × Int × Int × List Diiii × List Di × List Di) : Option ref34_Caught_R :=
  (ref34_Caught_r15 (ref34_Caught_K d) x1).eval fun y15 =>
  bif y15.2.2.2.1 then ((ref34_Caught_r17 (ref34_Caught_K d) y15).eval fun y17 =>
  (ref34_Caught_r18 (ref34_Caught_K d) y17).eval fun y18 =>
  bif y18.2.2.2.2.1 then ((ref34_Caught_r19 (ref34_Caught_K d) y18).eval fun y19 =>
  ref34_Caught_J2 d self1 y19) else ((ref34_Caught_r20 (ref34_Caught_K d) y18).eval fun y20 =>
  ref34_Caught_J2 d self1 y20)) else ((ref34_Caught_r21 (ref34_Caught_K d) y15).eval fun y21 =>
  some (y21.2.1, y21.2.2, y21.1))
def F_ref34_Caught (d : Nat) (x : ref34_Caught_X) : Option ref34_Caught_R :=
  (ref34_Caught_r0 (ref34_Caught_K d) (x.1.1, x.2.1.1, x.2.2.1.1, x.2.2.1.2.1, x.2.2.2.1.1, x.2.2.2.1.2.1)).eval fun y0 =>
  (ref34_Caught_r1 (ref34_Caught_K d) y0).eval fun y1 =>
  (ref34_Caught_r2 (ref34_Caught_K d) y1).eval fun y2 =>
  bif y2.2.2.1 then ((ref34_Caught_r3 (ref34_Caught_K d) y2).eval fun y3 =>
  some (y3.2.1, y3.2.2, y3.1)) else ((ref34_Caught_r4 (ref34_Caught_K d) y2).eval fun y4 =>
  (ref34_Caught_r5 (ref34_Caught_K d) y4).eval fun y5 =>
  bif y5.2.2.1 then ((ref34_Caught_r6 (ref34_Caught_K d) y5).eval fun y6 =>
  some (y6.2.1, y6.2.2, y6.1)) else ((ref34_Caught_r7 (ref34_Caught_K d) y5).eval fun y7 =>
  bif y7.2.1 then ((ref34_Caught_r8 (ref34_Caught_K d) y7).eval fun y8 =>
  some (y8.2.1, y8.2.2, y8.1)) else ((ref34_Caught_r9 (ref34_Caught_K d) y7).eval fun y9 =>
  (ref34_Caught_r10 (ref34_Caught_K d) y9).eval fun y10 =>
  bif y10.2.2.1 then ((ref34_Caught_r11 (ref34_Caught_K d) y10).eval fun y11 =>
  some (y11.2.1, y11.2.2, y11.1)) else ((ref34_Caught_r12 (ref34_Caught_K d) y10).eval fun y12 =>
  (ref34_Caught_r13 (ref34_Caught_K d) y12).eval fun y13 =>
  (ref34_Caught_r14 (ref34_Caught_K d) y13).eval fun y14 =>
  iter (ref34_Caught_L1 d ) d y14))))
abbrev ref04_Times_ps : List Pk := [.row RLiiiE true, .row Rii true, .row Rii true]
abbrev ref04_Times_X : Type := DLiiiE × Dii × Dii × Unit
abbrev ref04_Times_R : Type := Int
def ref04_Times_enc (r : ref04_Times_R) : LV × List Ob := (.int .i64 r, [])
def ref04_Times_sp (F : ref04_Times_X → Option ref04_Times_R) : Go.Tx.Spec := ⟨51, ref04_Times_ps, ref04_Times_R, F, ref04_Times_enc⟩
abbrev ref04_Times_C : Type := (ref01_Compare_X → Option ref01_Compare_R) × (ref03_Check_X → Option ref03_Check_R) × (ref01_Both_X → Option ref01_Both_R) × Unit
def ref04_Times_K (d : Nat) : ref04_Times_C := (F_ref01_Compare d, F_ref03_Check d, F_ref01_Both d, ())
def ref04_Times_tab (C : ref04_Times_C) : List Go.Tx.Spec := [ref01_Compare_sp C.1, ref03_Check_sp C.2.1, ref01_Both_sp C.2.2.1]
abbrev ref04_Times_Y0i : Type := List Diii × Int × Int × Int × Int
def ref04_Times_S0i (v : ref04_Times_Y0i) : St := ⟨[(0, .agg [.fz Riii v.1]), (1, .agg [.int .i64 v.2.1, .int .i64 v.2.2.1]), (2, .agg [.int .i64 v.2.2.2.1, .int .i64 v.2.2.2.2])], []⟩
abbrev ref04_Times_Y0 : Type := List Diii × Int × Int × Int × Int
def ref04_Times_S0 (v : ref04_Times_Y0) : St := ⟨[(3, .ptr 0 0), (4, .ptr 1 0), (5, .ptr 2 0)], [.cells [.fz Riii v.1], .cells [.int .i64 v.2.1, .int .i64 v.2.2.1], .cells [.int .i64 v.2.2.2.1, .int .i64 v.2.2.2.2]]⟩
def ref04_Times_r0 (C : ref04_Times_C) (v : ref04_Times_Y0i) : Dt ref04_Times_Y0 := (Dt.ret (v.1, v.2.1, v.2.2.1, v.2.2.2.1, v.2.2.2.2))
theorem ref04_Times_g0 (C : ref04_Times_C) (v : ref04_Times_Y0i) : treg tysT (orc (ref04_Times_tab C)) 24 (regO (bodyOf f51) 0) false [(3, (.box [.val Riii])), (4, .any), (5, .any)] (ref04_Times_S0i v) some = (ref04_Times_r0 C v).eval fun y => some (ref04_Times_S0 y) := by kernel_rfl
abbrev ref04_Times_Y1 : Type := Int × Int × Int × Int × Int
def ref04_Times_S1 (v : ref04_Times_Y1) : St := ⟨[(4, .ptr 0 0), (5, .ptr 1 0), (7, .int .i64 v.1)], [.cells [.int .i64 v.2.1, .int .i64 v.2.2.1], .cells [.int .i64 v.2.2.2.1, .int .i64 v.2.2.2.2]]⟩
def ref04_Times_r1 (C : ref04_Times_C) (v : ref04_Times_Y0) : Dt ref04_Times_Y1 := (Dt.bnd (C.2.1 ((v.1, ()), ())) fun r1 => (Dt.ret (r1, v.2.1, v.2.2.1, v.2.2.2.1, v.2.2.2.2)))
theorem ref04_Times_g1 (C : ref04_Times_C) (v : ref04_Times_Y0) : treg tysT (orc (ref04_Times_tab C)) 24 (regO (bodyOf f51) 1) false [(4, .any), (5, .any), (7, .any)] (ref04_Times_S0 v) some = (ref04_Times_r1 C v).eval fun y => some (ref04_Times_S1 y) := by kernel_rfl
abbrev ref04_Times_Y2 : Type := Int × Bool × Int × Int × Int × Int
def ref04_Times_S2 (v : ref04_Times_Y2) : St := ⟨[(4, .ptr 0 0), (5, .ptr 1 0), (7, .int .i64 v.1), (12, .bool v.2.1)], [.cells [.int .i64 v.2.2.1, .int .i64 v.2.2.2.1], .cells [.int .i64 v.2.2.2.2.1, .int .i64 v.2.2.2.2.2]]⟩
def ref04_Times_r2 (C : ref04_Times_C) (v : ref04_Times_Y1) : Dt ref04_Times_Y2 := (Dt.ret (v.1, (v.1 != (0:Int)), v.2.1, v.2.2.1, v.2.2.2.1, v.2.2.2.2))
theorem ref04_Times_g2 (C : ref04_Times_C) (v : ref04_Times_Y1) : treg tysT (orc (ref04_Times_tab C)) 24 (regO (bodyOf f51) 2) false [(4, .any), (5, .any), (7, .any), (12, .any)] (ref04_Times_S1 v) some = (ref04_Times_r2 C v).eval fun y => some (ref04_Times_S2 y) := by kernel_rfl
abbrev ref04_Times_Y3 : Type := Int
def ref04_Times_S3 (v : ref04_Times_Y3) : St := ⟨[(6, .int .i64 v)], []⟩
def ref04_Times_r3 (C : ref04_Times_C) (v : ref04_Times_Y2) : Dt ref04_Times_Y3 := (Dt.ret v.1)
theorem ref04_Times_g3 (C : ref04_Times_C) (v : ref04_Times_Y2) : treg tysT (orc (ref04_Times_tab C)) 24 (regO (bodyOf f51) 3) false [(6, .any)] (ref04_Times_S2 v) some = (ref04_Times_r3 C v).eval fun y => some (ref04_Times_S3 y) := by kernel_rfl
abbrev ref04_Times_Y4 : Type := Int × Int × Int × Int × Int
def ref04_Times_S4 (v : ref04_Times_Y4) : St := ⟨[(4, .ptr 0 0), (5, .ptr 1 0), (8, .int .i64 v.1)], [.cells [.int .i64 v.2.1, .int .i64 v.2.2.1], .cells [.int .i64 v.2.2.2.1, .int .i64 v.2.2.2.2]]⟩
def ref04_Times_r4 (C : ref04_Times_C) (v : ref04_Times_Y2) : Dt ref04_Times_Y4 := (Dt.bnd (C.2.2.1 ((v.2.2.1, v.2.2.2.1, ()), (v.2.2.2.2.1, v.2.2.2.2.2, ()), ())) fun r1 => (Dt.ret (r1, v.2.2.1, v.2.2.2.1, v.2.2.2.2.1, v.2.2.2.2.2)))
theorem ref04_Times_g4 (C : ref04_Times_C) (v : ref04_Times_Y2) : treg tysT (orc (ref04_Times_tab C)) 24 (regO (bodyOf f51) 4) false [(4, .any), (5, .any), (8, .any)] (ref04_Times_S2 v) some = (ref04_Times_r4 C v).eval fun y => some (ref04_Times_S4 y) := by kernel_rfl
abbrev ref04_Times_Y5 : Type := Int × Bool × Int × Int × Int × Int
def ref04_Times_S5 (v : ref04_Times_Y5) : St := ⟨[(4, .ptr 0 0), (5, .ptr 1 0), (8, .int .i64 v.1), (18, .bool v.2.1)], [.cells [.int .i64 v.2.2.1, .int .i64 v.2.2.2.1], .cells [.int .i64 v.2.2.2.2.1, .int .i64 v.2.2.2.2.2]]⟩
def ref04_Times_r5 (C : ref04_Times_C) (v : ref04_Times_Y4) : Dt ref04_Times_Y5 := (Dt.ret (v.1, (v.1 != (0:Int)), v.2.1, v.2.2.1, v.2.2.2.1, v.2.2.2.2))
theorem ref04_Times_g5 (C : ref04_Times_C) (v : ref04_Times_Y4) : treg tysT (orc (ref04_Times_tab C)) 24 (regO (bodyOf f51) 5) false [(4, .any), (5, .any), (8, .any), (18, .any)] (ref04_Times_S4 v) some = (ref04_Times_r5 C v).eval fun y => some (ref04_Times_S5 y) := by kernel_rfl
def ref04_Times_r6 (C : ref04_Times_C) (v : ref04_Times_Y5) : Dt ref04_Times_Y3 := (Dt.ret v.1)
theorem ref04_Times_g6 (C : ref04_Times_C) (v : ref04_Times_Y5) : treg tysT (orc (ref04_Times_tab C)) 24 (regO (bodyOf f51) 6) false [(6, .any)] (ref04_Times_S5 v) some = (ref04_Times_r6 C v).eval fun y => some (ref04_Times_S3 y) := by kernel_rfl
abbrev ref04_Times_Y7 : Type := Bool
def ref04_Times_S7 (v : ref04_Times_Y7) : St := ⟨[(23, .bool v)], []⟩
def ref04_Times_r7 (C : ref04_Times_C) (v : ref04_Times_Y5) : Dt ref04_Times_Y7 := (Dt.bnd (C.1 ((v.2.2.1, v.2.2.2.1, ()), (v.2.2.2.2.1, v.2.2.2.2.2, ()), ())) fun r1 => (Dt.ret (decide (r1 > (0:Int)))))
theorem ref04_Times_g7 (C : ref04_Times_C) (v : ref04_Times_Y5) : treg tysT (orc (ref04_Times_tab C)) 24 (regO (bodyOf f51) 7) false [(23, .any)] (ref04_Times_S5 v) some = (ref04_Times_r7 C v).eval fun y => some (ref04_Times_S7 y) := by kernel_rfl
def ref04_Times_r8 (C : ref04_Times_C) (v : ref04_Times_Y7) : Dt ref04_Times_Y3 := (Dt.ret (2:Int))
theorem ref04_Times_g8 (C : ref04_Times_C) (v : ref04_Times_Y7) : treg tysT (orc (ref04_Times_tab C)) 24 (regO (bodyOf f51) 8) false [(6, .any)] (ref04_Times_S7 v) some = (ref04_Times_r8 C v).eval fun y => some (ref04_Times_S3 y) := by kernel_rfl
def ref04_Times_r9 (C : ref04_Times_C) (v : ref04_Times_Y7) : Dt ref04_Times_Y3 := (Dt.ret (0:Int))
theorem ref04_Times_g9 (C : ref04_Times_C) (v : ref04_Times_Y7) : treg tysT (orc (ref04_Times_tab C)) 24 (regO (bodyOf f51) 9) false [(6, .any)] (ref04_Times_S7 v) some = (ref04_Times_r9 C v).eval fun y => some (ref04_Times_S3 y) := by kernel_rfl
def F_ref04_Times (d : Nat) (x : ref04_Times_X) : Option ref04_Times_R :=
  (ref04_Times_r0 (ref04_Times_K d) (x.1.1, x.2.1.1, x.2.1.2.1, x.2.2.1.1, x.2.2.1.2.1)).eval fun y0 =>
  (ref04_Times_r1 (ref04_Times_K d) y0).eval fun y1 =>
  (ref04_Times_r2 (ref04_Times_K d) y1).eval fun y2 =>
  bif y2.2.1 then ((ref04_Times_r3 (ref04_Times_K d) y2).eval fun y3 =>
  some y3) else ((ref04_Times_r4 (ref04_Times_K d) y2).eval fun y4 =>
  (ref04_Times_r5 (ref04_Times_K d) y4).eval fun y5 =>
  bif y5.2.1 then ((ref04_Times_r6 (ref04_Times_K d) y5).eval fun y6 =>
  some y6) else ((ref04_Times_r7 (ref04_Times_K d) y5).eval fun y7 =>
  bif y7 then ((ref04_Times_r8 (ref04_Times_K d) y7).eval fun y8 =>
  some y8) else ((ref04_Times_r9 (ref04_Times_K d) y7).eval fun y9 =>
  some y9)))
theorem ref04_Times_cok (d : Nat) : COK prog (ref04_Times_sp (F_ref04_Times d)) := by
  have hm : prog.follows .mixedOrders = true := mixed
  have hT := tys
  have hC0 : OrcOK prog (orc (ref04_Times_tab (ref04_Times_K d))) := orc_ok (by
    intro S hS
    simp only [ref04_Times_tab, List.mem_cons, List.not_mem_nil, or_false] at hS
    rcases hS with rfl | rfl | rfl
    · exact ref01_Compare_cok d
    · exact ref03_Check_cok d
    · exact ref01_Both_cok d)
  have hC : OrcOK prog (orc (ref04_Times_tab (ref04_Times_K d))) := hC0
  refine cok_of (c := bodyOf f51) (fn := f51) hT (by kernel_rfl) (by kernel_rfl) (by decide) fun x r h w0 φ0 Q hend => ?_
  replace h : F_ref04_Times d x = some r := h
  unfold F_ref04_Times at h
  show Run prog w0 φ0 24 (bodyOf f51) ⟨[(0, .agg [.fz Riii x.1.1]), (1, .agg [.int .i64 x.2.1.1, .int .i64 x.2.1.2.1]), (2, .agg [.int .i64 x.2.2.1.1, .int .i64 x.2.2.1.2.1])], []⟩ Q
  refine run_seq ?_
  refine run_reg hm hT hC (ref04_Times_g0 (ref04_Times_K d) (x.1.1, x.2.1.1, x.2.1.2.1, x.2.2.1.1, x.2.2.1.2.1)) h ?_
  intro y0 h
  refine cn_then ?_
  refine run_seq ?_
  refine run_seq ?_
  refine run_reg hm hT hC (ref04_Times_g1 (ref04_Times_K d) y0) h ?_
  intro y1 h
  refine cn_then ?_
  refine run_seq ?_
  refine run_reg hm hT hC (ref04_Times_g2 (ref04_Times_K d) y1) h ?_
  intro y2 h
  refine cn_then ?_
  refine run_cond (v := y2.2.1) (by kernel_rfl) h ?_ ?_
  ·
    intro h
    refine run_seq ?_
    refine run_reg hm hT hC (ref04_Times_g3 (ref04_Times_K d) y2) h ?_
    intro y3 h
    refine cn_then ?_
    refine run_ret ?_
    refine cn_then_ret ?_
    cases h
    exact (hend _ (by kernel_rfl)).2
  ·
    intro h
    refine run_skip ?_
    refine cn_then ?_
    refine run_seq ?_
    refine run_seq ?_
    refine run_reg hm hT hC (ref04_Times_g4 (ref04_Times_K d) y2) h ?_
    intro y4 h
    refine cn_then ?_
    refine run_seq ?_
    refine run_reg hm hT hC (ref04_Times_g5 (ref04_Times_K d) y4) h ?_
    intro y5 h
    refine cn_then ?_
    refine run_cond (v := y5.2.1) (by kernel_rfl) h ?_ ?_
    ·
      intro h
      refine run_seq ?_
      refine run_reg hm hT hC (ref04_Times_g6 (ref04_Times_K d) y5) h ?_
      intro y6 h
      refine cn_then ?_
      refine run_ret ?_
      refine cn_then_ret ?_
      cases h
      exact (hend _ (by kernel_rfl)).2
    ·
      intro h
      refine run_skip ?_
      refine cn_then ?_
      refine run_seq ?_
      refine run_seq ?_
      refine run_reg hm hT hC (ref04_Times_g7 (ref04_Times_K d) y5) h ?_
      intro y7 h
      refine cn_then ?_
      refine run_cond (v := y7) (by kernel_rfl) h ?_ ?_
      ·
        intro h
        refine run_seq ?_
        refine run_reg hm hT hC (ref04_Times_g8 (ref04_Times_K d) y7) h ?_
        intro y8 h
        refine cn_then ?_
        refine run_ret ?_
        refine cn_then_ret ?_
        cases h
        exact (hend _ (by kernel_rfl)).2
      ·
        intro h
        refine run_skip ?_
        refine cn_then ?_
        refine run_seq ?_
        refine run_reg hm hT hC (ref04_Times_g9 (ref04_Times_K d) y7) h ?_
        intro y9 h
        refine cn_then ?_
        refine run_ret ?_
        cases h
        exact (hend _ (by kernel_rfl)).2
end Go.Proofs.Ytmagihjfbembjaa
